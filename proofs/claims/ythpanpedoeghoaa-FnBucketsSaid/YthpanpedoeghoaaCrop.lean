/- CropImage of the reference and of the program. -/
import Derived.Test.YthpanpedoeghoaaDigest
import Derived.Test.YthpanpedoeghoaaMade
import Derived.Deep.RegionHeld3
set_option linter.unusedVariables false
set_option linter.unusedSimpArgs false
set_option linter.unnecessarySimpa false
namespace Go.Proofs.Ythpanpedoeghoaa
open Go.RowKit
set_option linter.unusedVariables false
set_option maxRecDepth 20000
/-- A cell's value, whatever it is. -/
def cellOf (w : World) (a : Addr) : Value := (w.cell? a).getD undef
theorem cellOf_some {w : World} {a : Addr} {v : Value} (h : w.cell? a = some v) : w.cell? a = some (cellOf w a) := by unfold cellOf; rw [h]; rfl
theorem cellOf_is {w : World} {a : Addr} {v : Value} (h : w.cell? a = some v) : cellOf w a = v := by unfold cellOf; rw [h]; rfl
theorem RS.part1 {w : World} {b o n c : Nat} {l : List Int} (h : RS w 1 (some ⟨b, o, none⟩) n c (ints l)) (lo len d : Nat) (hj : lo + len ≤ n) (hd : len ≤ d) (hd2 : d ≤ maxLen) :
    RS w 1 (some ⟨b, o + lo, none⟩) len d (ints ((l.drop lo).take len)) := by
  have := h.part rfl lo (lo + len) d (by omega) hj (by omega) hd2
  simp only [Nat.mul_one, show lo + len - lo = len by omega] at this
  rwa [← List.map_drop, ← List.map_take] at this
def insideF (x y p q W H : Int) : Bool := inB x 0 (W - 1) && (inB y 0 (H - 1) && (inB p 1 (W - x) && inB q 1 (H - y)))
theorem insideF_true {x y p q W H : Int} (h : insideF x y p q W H = true) : (0 ≤ x ∧ x ≤ W - 1) ∧ (0 ≤ y ∧ y ≤ H - 1) ∧ (1 ≤ p ∧ p ≤ W - x) ∧ 1 ≤ q ∧ q ≤ H - y := by
  simp only [insideF, Bool.and_eq_true] at h
  exact ⟨inB_true h.1, inB_true h.2.1, inB_true h.2.2.1, inB_true h.2.2.2⟩
theorem inside_ways (x y p q W H : Int) : (insideF x y p q W H = true ∧ inB x 0 (W - 1) = true ∧ inB y 0 (H - 1) = true ∧ inB p 1 (W - x) = true ∧ inB q 1 (H - y) = true) ∨ (insideF x y p q W H = false ∧ inB x 0 (W - 1) = false) ∨ (insideF x y p q W H = false ∧ inB x 0 (W - 1) = true ∧ inB y 0 (H - 1) = false) ∨
    (insideF x y p q W H = false ∧ inB x 0 (W - 1) = true ∧ inB y 0 (H - 1) = true ∧ inB p 1 (W - x) = false) ∨ (insideF x y p q W H = false ∧ inB x 0 (W - 1) = true ∧ inB y 0 (H - 1) = true ∧ inB p 1 (W - x) = true ∧ inB q 1 (H - y) = false) := by
  unfold insideF
  cases inB x 0 (W - 1) <;> cases inB y 0 (H - 1) <;> cases inB p 1 (W - x) <;> cases inB q 1 (H - y) <;> simp
set_option maxHeartbeats 1000000 in
theorem I_inside {x y p q W H : Int} (w : World) (hW : 1 ≤ W ∧ W ≤ 12) (hH : 1 ≤ H ∧ H ≤ 12) :
    Calls Try.prog 19 #[vBucket x y p q, .int .i64 W, .int .i64 H] w fun e w' => e = .returned (.bool (insideF x y p q W H)) ∧ Below w.heap.size w w' := by
  obtain ⟨hW1, hW2⟩ := hW
  obtain ⟨hH1, hH2⟩ := hH
  rcases inside_ways x y p q W H with ⟨h0, h1, h2, h3, h4⟩ | ⟨h0, h1⟩ | ⟨h0, h1, h2⟩ | ⟨h0, h1, h2, h3⟩ | ⟨h0, h1, h2, h3, h4⟩
  · have HE := Lib.hid h0
    obtain ⟨a1, a2⟩ := inB_true h1
    obtain ⟨b1, b2⟩ := inB_true h2
    clear h0
    go_enter Try.func19, Try.ntmps19
    go_wp2_with (go_at_call 15; refine (I_within _ _ _ _).mono ?_; rintro e w' ⟨rfl, rfl⟩)
    go_ret
    exact ⟨ret_bool HE.out.symm, (by repeat (first | (with_reducible exact Below.refl _ _) | (with_reducible assumption) | ((with_reducible refine Below.alloc ?_ ?_ _); rotate_left; (first | omega | (simp <;> omega))) | ((with_reducible refine Below.setCell ?_ ?_ _); rotate_left; (first | omega | (simp <;> omega))) | (with_reducible refine below_drewN ?_ _) | (with_reducible refine Below.drew ?_) | ((with_reducible refine Below.step (by assumption) ?_ ?_); rotate_left; (first | omega | (simp <;> omega)))))⟩
  · have HE := Lib.hid h0
    clear h0
    go_enter Try.func19, Try.ntmps19
    go_wp2_with (go_at_call 15; refine (I_within _ _ _ _).mono ?_; rintro e w' ⟨rfl, rfl⟩)
    go_ret
    exact ⟨ret_bool HE.out.symm, (by repeat (first | (with_reducible exact Below.refl _ _) | (with_reducible assumption) | ((with_reducible refine Below.alloc ?_ ?_ _); rotate_left; (first | omega | (simp <;> omega))) | ((with_reducible refine Below.setCell ?_ ?_ _); rotate_left; (first | omega | (simp <;> omega))) | (with_reducible refine below_drewN ?_ _) | (with_reducible refine Below.drew ?_) | ((with_reducible refine Below.step (by assumption) ?_ ?_); rotate_left; (first | omega | (simp <;> omega)))))⟩
  · have HE := Lib.hid h0
    obtain ⟨a1, a2⟩ := inB_true h1
    clear h0
    go_enter Try.func19, Try.ntmps19
    go_wp2_with (go_at_call 15; refine (I_within _ _ _ _).mono ?_; rintro e w' ⟨rfl, rfl⟩)
    go_ret
    exact ⟨ret_bool HE.out.symm, (by repeat (first | (with_reducible exact Below.refl _ _) | (with_reducible assumption) | ((with_reducible refine Below.alloc ?_ ?_ _); rotate_left; (first | omega | (simp <;> omega))) | ((with_reducible refine Below.setCell ?_ ?_ _); rotate_left; (first | omega | (simp <;> omega))) | (with_reducible refine below_drewN ?_ _) | (with_reducible refine Below.drew ?_) | ((with_reducible refine Below.step (by assumption) ?_ ?_); rotate_left; (first | omega | (simp <;> omega)))))⟩
  all_goals
    have HE := Lib.hid h0
    obtain ⟨a1, a2⟩ := inB_true h1
    obtain ⟨b1, b2⟩ := inB_true h2
    clear h0
    go_enter Try.func19, Try.ntmps19
    go_wp2_with (go_at_call 15; refine (I_within _ _ _ _).mono ?_; rintro e w' ⟨rfl, rfl⟩)
    go_ret
    exact ⟨ret_bool HE.out.symm, (by repeat (first | (with_reducible exact Below.refl _ _) | (with_reducible assumption) | ((with_reducible refine Below.alloc ?_ ?_ _); rotate_left; (first | omega | (simp <;> omega))) | ((with_reducible refine Below.setCell ?_ ?_ _); rotate_left; (first | omega | (simp <;> omega))) | (with_reducible refine below_drewN ?_ _) | (with_reducible refine Below.drew ?_) | ((with_reducible refine Below.step (by assumption) ?_ ?_); rotate_left; (first | omega | (simp <;> omega)))))⟩
/-- Rows y, y + 1, .. of a part of an image. -/
def cropTo (l : List Int) (a x y p : Nat) (i : Nat) : List Int := (List.range i).flatMap (fun k => (l.drop ((y + k) * a + x)).take p)
theorem cropTo_succ (l : List Int) (a x y p i : Nat) : cropTo l a x y p (i + 1) = cropTo l a x y p i ++ (l.drop ((y + i) * a + x)).take p := by
  unfold cropTo; rw [List.range_succ, List.flatMap_append]; simp
theorem cropTo_len (l : List Int) (a x y p : Nat) : ∀ i, (cropTo l a x y p i).length ≤ i * p
  | 0 => by simp [cropTo]
  | i + 1 => by
    rw [cropTo_succ, List.length_append, Nat.succ_mul]
    have := cropTo_len l a x y p i
    have h2 : ((l.drop ((y + i) * a + x)).take p).length ≤ p := List.length_take_le _ _
    omega
def cropOk (W H : Int) (l : List Int) (x y p q : Int) : Bool := validImg W H l && insideF x y p q W H
def cropL (W H : Int) (l : List Int) (x y p q : Int) : List Int := if cropOk W H l x y p q then cropTo l W.toNat x.toNat y.toNat p.toNat q.toNat else []
/-- A valid crop, in natural numbers. -/
theorem crop_nat {W H : Int} {l : List Int} {x y p q : Int} (hv : validImg W H l = true) (hi : insideF x y p q W H = true) :
    ∃ a b xn yn pn qn : Nat, W = a ∧ H = b ∧ x = xn ∧ y = yn ∧ p = pn ∧ q = qn ∧ (1 ≤ a ∧ a ≤ 12) ∧ (1 ≤ b ∧ b ≤ 12) ∧ xn + pn ≤ a ∧ yn + qn ≤ b ∧ 1 ≤ pn ∧ 1 ≤ qn ∧ l.length = a * b := by
  obtain ⟨u1, u2, c, d, e⟩ := validImg_len hv
  obtain ⟨h1, h2, h3, h4⟩ := insideF_true hi
  obtain ⟨a, rfl⟩ := Int.eq_ofNat_of_zero_le (show 0 ≤ W by omega)
  obtain ⟨b, rfl⟩ := Int.eq_ofNat_of_zero_le (show 0 ≤ H by omega)
  obtain ⟨xn, rfl⟩ := Int.eq_ofNat_of_zero_le (show 0 ≤ x by omega)
  obtain ⟨yn, rfl⟩ := Int.eq_ofNat_of_zero_le (show 0 ≤ y by omega)
  obtain ⟨pn, rfl⟩ := Int.eq_ofNat_of_zero_le (show 0 ≤ p by omega)
  obtain ⟨qn, rfl⟩ := Int.eq_ofNat_of_zero_le (show 0 ≤ q by omega)
  refine ⟨a, b, xn, yn, pn, qn, rfl, rfl, rfl, rfl, rfl, rfl, by omega, by omega, by omega, by omega, by omega, by omega, ?_⟩
  rw [← Int.natCast_mul] at c
  omega
def CropR (ok : Bool) (p q : Int) (l : List Int) (w : World) : Ending → World → Prop :=
  MadeImage (fun s0 => .tuple #[vImage (if ok then p else 0) (if ok then q else 0) s0, .bool ok]) (if ok then l else []).length (ints (if ok then l else [])) w
theorem CropR.no {p q : Int} {l : List Int} {w w' : World} (hB : Below w.heap.size w w') : CropR false p q l w (.returned (.tuple #[vImage 0 0 (.slice none 0 0), .bool false])) w' :=
  ⟨none, 0, rfl, OwnS.none_ _ _ _, fun x hx => absurd hx (by simp [gOf]), hB⟩
theorem row_end {a b y q j : Nat} (hj : j < y + q) (hq : y + q ≤ b) : j * a + a ≤ a * b := by
  have : (j + 1) * a ≤ b * a := Nat.mul_le_mul_right _ (by omega)
  rw [Nat.succ_mul, Nat.mul_comm b a] at this
  exact this
end Go.Proofs.Ythpanpedoeghoaa
