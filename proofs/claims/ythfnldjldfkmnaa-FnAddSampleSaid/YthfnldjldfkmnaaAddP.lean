/- Adding a sample to a buffer: what it computes. No program in sight. -/
import Derived.Test.YthfnldjldfkmnaaFilmP
import Derived.Test.YthfnldjldfkmnaaAccumV
import Derived.Test.YthfnldjldfkmnaaFilterW
import Derived.Test.YthfnldjldfkmnaaCursor
import Derived.Test.YthfnldjldfkmnaaMade
namespace Go.Proofs.Ythfnldjldfkmnaa
open Go.RowKit
set_option linter.unusedVariables false
theorem weightF_rng (k r i j x y : Int) : 0 ≤ weightF k r i j x y ∧ weightF k r i j x y ≤ 6400 := by
  unfold weightF
  split
  · rename_i ho
    obtain ⟨⟨i1, i2⟩, ⟨j1, j2⟩, ⟨x1, x2⟩, y1, y2⟩ := okW_true ho
    obtain ⟨e1, e2⟩ := extF_rng k r
    obtain ⟨d1, d2⟩ := distF_rng x1 x2 i1 i2
    obtain ⟨d3, d4⟩ := distF_rng y1 y2 j1 j2
    rcases wt_cases k (extF k r) (distF x i) (distF y j) e2 d1 d3 with ⟨_, _, _, e⟩ | ⟨_, _, _, ⟨m1, m2⟩, e⟩ | ⟨_, e⟩ | ⟨_, _, e⟩ <;> omega
  · omega
/-- The weight of a sample for pixel n of an image of width a. -/
def wgt (a : Nat) (k r x y : Int) (n : Nat) : Int := weightF k r ((n % a : Nat) : Int) ((n / a : Nat) : Int) x y
theorem wgt_rng (a : Nat) (k r x y : Int) (n : Nat) : 0 ≤ wgt a k r x y n ∧ wgt a k r x y n ≤ 6400 := weightF_rng _ _ _ _ _ _
theorem wgt_at {a : Nat} {k r x y : Int} {i j n : Nat} (hi : i < a) (hn : j * a + i = n) : wgt a k r x y n = weightF k r i j x y := by
  have h1 : n % a = i := by rw [← hn, Nat.add_comm, Nat.add_mul_mod_self_right, Nat.mod_eq_of_lt hi]
  have h2 : n / a = j := by rw [← hn, Nat.add_comm, Nat.add_mul_div_right _ _ (by omega), Nat.div_eq_of_lt hi, Nat.zero_add]
  rw [wgt, h1, h2]
abbrev alwaysOn (_ : Nat) : Bool := true
def adS (g : Nat → Int) (color : Int) (s : List Int) (n : Nat) : Int := atI s n + g n * color
def adT (g : Nat → Int) (t : List Int) (n : Nat) : Int := atI t n + g n
abbrev sumsTo (g : Nat → Int) (color : Int) (s : List Int) (n : Nat) : List Int := pixTo selfN alwaysOn (adS g color s) s n
abbrev wtsTo (g : Nat → Int) (t : List Int) (n : Nat) : List Int := pixTo selfN alwaysOn (adT g t) t n
def belowTo (g : Nat → Int) (t : List Int) (n : Nat) : Bool := (List.range n).all fun i => decide (adT g t i ≤ 1000000000)
theorem belowTo_succ (g : Nat → Int) (t : List Int) (n : Nat) : belowTo g t (n + 1) = (belowTo g t n && decide (adT g t n ≤ 1000000000)) := by
  unfold belowTo; rw [List.range_succ, List.all_append]; simp
theorem sumsTo_at (g : Nat → Int) (color : Int) {s : List Int} {n : Nat} (h : n < s.length) : (ints (sumsTo g color s n))[n]? = some (.int .i64 s[n]) := by
  have h1 := pixTo_far (at_ := selfN) (on := alwaysOn) (v := adS g color s) s (i := n) n (fun j hj => by show j ≠ n; omega)
  rw [ints_at (by rw [pixTo_len]; exact h)]
  rw [List.getElem?_eq_getElem (by rw [pixTo_len]; exact h), List.getElem?_eq_getElem h] at h1
  rw [Option.some.inj h1]
theorem wtsTo_at (g : Nat → Int) {t : List Int} {n : Nat} (h : n < t.length) : (ints (wtsTo g t n))[n]? = some (.int .i64 t[n]) := by
  have h1 := pixTo_far (at_ := selfN) (on := alwaysOn) (v := adT g t) t (i := n) n (fun j hj => by show j ≠ n; omega)
  rw [ints_at (by rw [pixTo_len]; exact h)]
  rw [List.getElem?_eq_getElem (by rw [pixTo_len]; exact h), List.getElem?_eq_getElem h] at h1
  rw [Option.some.inj h1]
theorem sumsTo_set {g : Nat → Int} {color : Int} {s : List Int} {n : Nat} (h : n < s.length) : (ints (sumsTo g color s n)).set n (.int .i64 (s[n] + g n * color)) = ints (sumsTo g color s (n + 1)) := by
  have := pixTo_set (at_ := selfN) (on := alwaysOn) (v := adS g color s) (s := s) (k := n) rfl
  rw [← this, adS, atI, getD_at h]
theorem wtsTo_set {g : Nat → Int} {t : List Int} {n : Nat} (h : n < t.length) : (ints (wtsTo g t n)).set n (.int .i64 (t[n] + g n)) = ints (wtsTo g t (n + 1)) := by
  have := pixTo_set (at_ := selfN) (on := alwaysOn) (v := adT g t) (s := t) (k := n) rfl
  rw [← this, adT, atI, getD_at h]
theorem validAcc_all {W H : Int} {s t : List Int} (h : validAcc W H s t = true) : (1 ≤ W ∧ W ≤ 12) ∧ (1 ≤ H ∧ H ≤ 12) ∧ (s.length : Int) = W * H ∧ (t.length : Int) = W * H ∧ ∀ n (h1 : n < s.length) (h2 : n < t.length), (0 ≤ t[n] ∧ t[n] ≤ 1000000000) ∧ 0 ≤ s[n] ∧ s[n] ≤ 256 * t[n] := by
  unfold validAcc sizeB at h
  simp only [Bool.and_eq_true, decide_eq_true_eq] at h
  obtain ⟨⟨hw, hh⟩, h1, h2, h3⟩ := h
  refine ⟨inB_true hw, inB_true hh, h1, h2, fun n a b => ?_⟩
  have := zip_get h3 a b
  simp only [accPair, Bool.and_eq_true] at this
  exact ⟨inB_true this.1, inB_true this.2⟩
def addCond (W H : Int) (s t : List Int) (k r x y color : Int) : Bool := validAcc W H s t && (validF k r && (inB color 0 256 && (inB x 0 (W * 16 - 1) && inB y 0 (H * 16 - 1))))
def addOk (W H : Int) (s t : List Int) (k r x y color : Int) : Bool := addCond W H s t k r x y color && belowTo (wgt W.toNat k r x y) t t.length
def addS (W H : Int) (s t : List Int) (k r x y color : Int) : List Int := if addOk W H s t k r x y color then sumsTo (wgt W.toNat k r x y) color s s.length else s
def addT (W H : Int) (s t : List Int) (k r x y color : Int) : List Int := if addOk W H s t k r x y color then wtsTo (wgt W.toNat k r x y) t t.length else t
theorem addS_len (W H : Int) (s t : List Int) (k r x y color : Int) : (addS W H s t k r x y color).length = s.length := by unfold addS; split; exact pixTo_len _ _; rfl
theorem addT_len (W H : Int) (s t : List Int) (k r x y color : Int) : (addT W H s t k r x y color).length = t.length := by unfold addT; split; exact pixTo_len _ _; rfl
/-- A buffer that can be added to, in natural numbers. -/
theorem acc_nat {W H : Int} {s t : List Int} (h : validAcc W H s t = true) : ∃ a b : Nat, W = a ∧ H = b ∧ (1 ≤ a ∧ a ≤ 12) ∧ (1 ≤ b ∧ b ≤ 12) ∧ s.length = a * b ∧ t.length = a * b := by
  obtain ⟨u1, u2, h1, h2, _⟩ := validAcc_all h
  obtain ⟨a, rfl⟩ := Int.eq_ofNat_of_zero_le (show 0 ≤ W by omega)
  obtain ⟨b, rfl⟩ := Int.eq_ofNat_of_zero_le (show 0 ≤ H by omega)
  rw [← Int.natCast_mul] at h1 h2
  exact ⟨a, b, rfl, rfl, by omega, by omega, by omega, by omega⟩
/-- What adding leaves. -/
def AddR (W H : Int) (n m : Nat) (ok : Bool) (l l' : List Int) (w : World) : Ending → World → Prop :=
  MadeAccum (fun s0 s1 => .tuple #[vAccum W H s0 s1, .bool ok]) n (ints l) m (ints l') w
theorem add_ways (W H : Int) (s t : List Int) (k r x y color : Int) : (validAcc W H s t = false ∧ Hid (addOk W H s t k r x y color = false)) ∨ (validAcc W H s t = true ∧ validF k r = false ∧ Hid (addOk W H s t k r x y color = false)) ∨
    (validAcc W H s t = true ∧ validF k r = true ∧ inB color 0 256 = false ∧ Hid (addOk W H s t k r x y color = false)) ∨ (validAcc W H s t = true ∧ validF k r = true ∧ inB color 0 256 = true ∧ inB x 0 (W * 16 - 1) = false ∧ Hid (addOk W H s t k r x y color = false)) ∨
    (validAcc W H s t = true ∧ validF k r = true ∧ inB color 0 256 = true ∧ inB x 0 (W * 16 - 1) = true ∧ inB y 0 (H * 16 - 1) = false ∧ Hid (addOk W H s t k r x y color = false)) ∨
    (validAcc W H s t = true ∧ validF k r = true ∧ inB color 0 256 = true ∧ inB x 0 (W * 16 - 1) = true ∧ inB y 0 (H * 16 - 1) = true ∧ Hid (addOk W H s t k r x y color = belowTo (wgt W.toNat k r x y) t t.length)) := by
  unfold Hid addOk addCond
  cases h1 : validAcc W H s t <;> cases h2 : validF k r <;> cases h3 : inB color 0 256 <;> cases h4 : inB x 0 (W * 16 - 1) <;> cases h5 : inB y 0 (H * 16 - 1) <;> simp
end Go.Proofs.Ythfnldjldfkmnaa
