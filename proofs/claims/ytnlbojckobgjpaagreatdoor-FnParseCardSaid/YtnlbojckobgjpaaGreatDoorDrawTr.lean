/- The reference's draw of a source: it is parsed, and its program is small. -/
import Derived.Test.YtnlbojckobgjpaaGreatDoorCursor
import Derived.Test.YtnlbojckobgjpaaGreatDoorMgC
import Derived.Test.YtnlbojckobgjpaaGreatDoorLexT
import Derived.Test.YtnlbojckobgjpaaGreatDoorMgF
import Derived.Deep.RegionHeld3
set_option linter.unusedVariables false
set_option linter.unusedSimpArgs false
namespace Go.Proofs.YtnlbojckobgjpaaGreatDoor
open Go.RowKit Go.Lib
set_option maxRecDepth 100000
set_option maxHeartbeats 1000000 in
theorem S_onceT {g c : Nat} {A : Option Addr} {l : List Int} {n : Int} (w : World) (h : Cur 85 w g A c l) (hn : 1 ≤ n ∧ n ≤ 256) :
    Calls Tryz.prog 33 #[.pointer (some ⟨g, 0, none⟩), .int .i64 n] w fun e w' => ∃ b : Bool, e = .returned (.bool b) ∧ Cur 85 w' g A c l ∧ Only w.heap.size [g] w w' := by
  have HC := Lib.hid h
  clear h
  go_enter Tryz.func33, Tryz.ntmps33
  go_wp2_with fail
  refine (S_below _ HC.out hn).mono ?_
  rintro e w1 ⟨x, rfl, x0, x1, hc, hO⟩
  have HCC := Lib.hid hc
  have HO := Lib.hid hO
  clear hc hO
  go_wp2
  go_ret
  exact ⟨_, rfl, HCC.out, HO.out⟩
set_option maxHeartbeats 1000000 in
theorem S_str {g c k b : Nat} {A : Option Addr} {l : List Int} {xs : List (List UInt8)} (w : World) (h : Cur 85 w g A c l) (hr : RS w 1 (some ⟨b, 0, none⟩) xs.length k (strs xs)) (hx : 1 ≤ xs.length ∧ xs.length ≤ 256) (hb : ¬ b = g) :
    Calls Tryz.prog 62 #[.pointer (some ⟨g, 0, none⟩), .slice (some ⟨b, 0, none⟩) xs.length k] w fun e w' => ∃ s, s ∈ xs ∧ e = .returned (str s) ∧ Cur 85 w' g A c l ∧ Only w.heap.size [g] w w' := by
  obtain ⟨x1, x2⟩ := hx
  have HC := Lib.hid h
  obtain ⟨h1, h2, h3⟩ := hr.open_
  obtain ⟨b', o', e, hbl, hcell⟩ := h3 (by omega)
  injection e with e
  injection e with e1 e2
  subst e1; subst e2
  have HCELL := Lib.hid hcell
  clear h hr h3 hcell
  go_enter Tryz.func62, Tryz.ntmps62
  go_wp2_with fail
  refine (S_below (n := xs.length) _ HC.out (by omega)).mono ?_
  rintro e w1 ⟨x, rfl, y0, y1, hc, hO⟩
  obtain ⟨j, rfl⟩ : ∃ j : Nat, x = j := ⟨x.toNat, by omega⟩
  have hj : j < xs.length := by omega
  have c0 : w1.cell? ⟨b, j, none⟩ = some (str xs[j]) := by
    rw [(hO.cell b hbl (by simpa using hb)).1, ← strs_at hj]
    have := HCELL.out j (by omega)
    simpa using this
  have HM := Lib.hid (List.getElem_mem hj)
  have i0 : (0 : Int) ≤ j := by omega
  have i1 : (j : Int) < xs.length := by omega
  have HCC := Lib.hid hc
  have HO := Lib.hid hO
  generalize xs[j] = u at *
  clear hc hO
  go_wp2
  go_ret
  exact ⟨_, HM.out, rfl, HCC.out, HO.out⟩
/-- An expression of a depth was drawn. -/
def ExpR (w : World) (g : Nat) (A : Option Addr) (c : Nat) (l : List Int) (n D B : Nat) : Ending → World → Prop := fun e w' => ∃ s, e = .returned (str s) ∧ TX n D B s ∧ Cur 85 w' g A c l ∧ Only w.heap.size [g] w w'
theorem cut2 {a b : UInt8} {r : List UInt8} : ({ data := (a :: b :: r).toArray } : ByteArray).extract 0 2 = ⟨#[a, b]⟩ := by
  rw [lex_extract]; rfl
def fnNs : List (List UInt8) := [[100, 117], [100, 118], [110, 111, 105, 115, 101, 50], [115, 116, 101, 112, 48]]
set_option maxHeartbeats 4000000 in
theorem S_exprLeaf {g c : Nat} {A : Option Addr} {l : List Int} {d : Int} {n D B : Nat} (w : World) (h : Cur 85 w g A c l) (hd : d ≤ 0) (hn : 1 ≤ n) (hB : 4 ≤ B) :
    Calls Tryz.prog 32 #[.pointer (some ⟨g, 0, none⟩), .int .i64 d] w (ExpR w g A c l n D B) := by
  have hgl := h.lt
  have HC := Lib.hid h
  clear h
  go_enter Tryz.func32, Tryz.ntmps32
  go_wp2_with fail
  refine (S_str (xs := leafs) _ (HC.out.alloc _) (Grow.rs (base := 0) (n := 10) (c := 10) (by repeat (first | (with_reducible refine Grow.drewN ?_ _) | (with_reducible refine Grow.drew ?_) | (refine Grow.lit_at (by simp) (by rfl) (Nat.zero_le _) (by unfold maxLen; omega))))) (by decide) (by omega)).mono ?_
  rintro e w1 ⟨s, hs, rfl, hc, hO⟩
  have HCC := Lib.hid hc
  have HO : Hid (Only w.heap.size [g] w w1) := Lib.hid (Only.trans (Only.alloc (Only.refl w.heap.size [g] w) (Nat.le_refl _) _) (hO.mono (by simp) (fun x hx => Or.inl hx)) (Nat.le_refl _) (fun x hx => hx))
  have HS := Lib.hid hs
  clear hc hO hs
  go_wp2
  go_ret
  exact ⟨s, rfl, (TX.leaf HS.out).mono hn (Nat.zero_le _) hB, HCC.out, HO.out⟩
end Go.Proofs.YtnlbojckobgjpaaGreatDoor
