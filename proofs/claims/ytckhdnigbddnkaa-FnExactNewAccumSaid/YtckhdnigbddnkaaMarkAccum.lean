/- Marks in the two rows of an Accum. -/
import Derived.Test.YtckhdnigbddnkaaMark
import Derived.Test.YtckhdnigbddnkaaRecs
namespace Go.Proofs.Ytckhdnigbddnkaa
open Go.RowKit
set_option linter.unusedVariables false
set_option maxHeartbeats 4000000 in
theorem L_markAccum {A1 A2 : Option Addr} {n : Nat} {a b k : Int} {cs ds : List Value} (w : World) (h : OwnS w A1 n 3 cs) (h' : OwnS w A2 n 3 ds) (hn : n ≤ 1048576) (hg : ∀ x, x ∈ gOf A1 → x ∉ gOf A2) (h0 : 0 ≤ k) (h1 : k ≤ 1099510579199) :
    Calls Try.prog 48 #[vAccum a b (.slice A1 n n) (.slice A2 n n), .int .i64 k] w fun e w' => e = .returned (.int .i64 (k + n + n)) ∧ OwnS w' A1 n 3 (ints (upFrom k n)) ∧ OwnS w' A2 n 3 (ints (upFrom (k + n) n)) ∧ Only w.heap.size (gOf A1 ++ gOf A2) w w' := by
  have l1 := h.lt
  have l2 := h'.lt
  have HO := Lib.hid h
  have HO' := Lib.hid h'
  clear h h'
  go_enter Try.func48, Try.ntmps48
  go_wp2_with fail
  refine (L_markIntSG _ (by with_reducible exact OwnS.alloc HO.out _) hn (by omega) (by omega)).mono ?_
  rintro e w1 ⟨rfl, ho1, hO1⟩
  have z1 := hO1.size
  simp at z1
  obtain ⟨c1, f1⟩ := hO1.cell w.heap.size (by simp) (fun hx => absurd (l1 _ hx) (by omega))
  have hp2 := OwnS.only (OwnS.alloc HO'.out _) hO1 (fun x hx => ⟨by have := l2 x hx; simp; omega, fun hy => hg x hy hx⟩)
  have z2 : w.heap.size < w1.heap.size := by omega
  have A1 : Only w.heap.size (gOf A1) w w1 := (Only.of_below ((Below.refl _ _).alloc (Nat.le_refl _) _) _).trans hO1 (by simp) (fun _ h => h)
  have HA := Lib.hid A1
  have H1 := Lib.hid ho1
  have H2 := Lib.hid hp2
  clear hO1 A1 ho1 hp2
  go_wp2_with fail
  refine (L_markIntSG _ H2.out hn (by omega) (by omega)).mono ?_
  rintro e w2 ⟨rfl, ho2, hO2⟩
  have z3 := hO2.size
  have hp3 := OwnS.only H1.out hO2 (fun x hx => ⟨by have := l1 x hx; omega, hg x hx⟩)
  have A2 : Only w.heap.size (gOf A1 ++ gOf A2) w w2 := ⟨hO2.os.trans HA.out.os, hO2.tape.trans HA.out.tape, hO2.output.trans HA.out.output, by have := HA.out.size; omega, fun i hi hn => (hO2.block i (by omega) (fun hx => hn (List.mem_append_right _ hx))).trans (HA.out.block i hi (fun hx => hn (List.mem_append_left _ hx)))⟩
  have HB := Lib.hid A2
  clear hO2 A2
  have HC := Lib.hid hp3
  have HD := Lib.hid ho2
  clear hp3 ho2
  go_wp2
  go_ret
  exact ⟨rfl, HC.out, HD.out, HB.out⟩
set_option maxHeartbeats 4000000 in
theorem L_heldAccum {A1 A2 : Option Addr} {n : Nat} {a b k : Int} (w : World) (h : OwnS w A1 n 3 (ints (upFrom k n))) (h' : OwnS w A2 n 3 (ints (upFrom (k + n) n))) (hn : n ≤ 1048576) (h0 : 0 ≤ k) (h1 : k ≤ 1099510579199) :
    Calls Try.prog 49 #[vAccum a b (.slice A1 n n) (.slice A2 n n), .int .i64 k] w fun e w' => e = .returned (.int .i64 (k + n + n)) ∧ Below w.heap.size w w' := by
  have HO := Lib.hid h
  have HO' := Lib.hid h'
  clear h h'
  have t1 : ¬ k + (n : Int) < 0 := by omega
  have t2 : ¬ k + (n : Int) + n < 0 := by omega
  go_enter Try.func49, Try.ntmps49
  go_wp2_with fail
  refine (L_heldIntSG _ (by with_reducible exact OwnS.alloc HO.out _) hn (by omega) (by omega)).mono ?_
  rintro e w1 ⟨rfl, rfl⟩
  go_wp2_with fail
  refine (L_heldIntSG _ (by with_reducible exact OwnS.alloc HO'.out _) hn (by omega) (by omega)).mono ?_
  rintro e w1 ⟨rfl, rfl⟩
  go_wp2
  go_ret
  exact ⟨rfl, (by repeat (first | (with_reducible exact Below.refl _ _) | (with_reducible assumption) | ((with_reducible refine Below.alloc ?_ ?_ _); rotate_left; (first | omega | (simp <;> omega))) | ((with_reducible refine Below.setCell ?_ ?_ _); rotate_left; (first | omega | (simp <;> omega))) | (with_reducible refine below_drewN ?_ _) | (with_reducible refine Below.drew ?_) | ((with_reducible refine Below.step (by assumption) ?_ ?_); rotate_left; (first | omega | (simp <;> omega)))))⟩
end Go.Proofs.Ytckhdnigbddnkaa
