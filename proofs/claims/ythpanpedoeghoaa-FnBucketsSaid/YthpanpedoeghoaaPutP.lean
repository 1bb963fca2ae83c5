/- PutBucket: what it computes, and small contracts. -/
import Derived.Test.YthpanpedoeghoaaFilmP
import Derived.Test.YthpanpedoeghoaaPixels
set_option linter.unusedVariables false
set_option linter.unusedSimpArgs false
set_option linter.unnecessarySimpa false
namespace Go.Proofs.Ythpanpedoeghoaa
open Go.RowKit
set_option linter.unusedVariables false
/-- The place of pixel k of a bucket in a film of width a. -/
def bAt (a x y p k : Nat) : Nat := (y + k / p) * a + (x + k % p)
theorem bAt_parts {a x y p k : Nat} (hp : 1 ≤ p) (hx : x + p ≤ a) : bAt a x y p k / a = y + k / p ∧ bAt a x y p k % a = x + k % p := by
  have h1 : k % p < p := Nat.mod_lt _ (by omega)
  unfold bAt
  constructor
  · rw [Nat.add_comm, Nat.add_mul_div_right _ _ (by omega), Nat.div_eq_of_lt (by omega), Nat.zero_add]
  · rw [Nat.add_comm, Nat.add_mul_mod_self_right, Nat.mod_eq_of_lt (by omega)]
theorem bAt_inj {a x y p j k : Nat} (hp : 1 ≤ p) (hx : x + p ≤ a) (h : bAt a x y p j = bAt a x y p k) : j = k := by
  have h1 := bAt_parts (y := y) (k := j) hp hx
  have h2 := bAt_parts (y := y) (k := k) hp hx
  rw [h] at h1
  have e1 : j / p = k / p := by omega
  have e2 : j % p = k % p := by omega
  rw [← Nat.div_add_mod j p, ← Nat.div_add_mod k p, e1, e2]
theorem bAt_lt {a b x y p q k : Nat} (hp : 1 ≤ p) (hx : x + p ≤ a) (hq : y + q ≤ b) (hk : k < p * q) : bAt a x y p k < a * b ∧ k / p < q ∧ k % p < p := by
  have h1 : k % p < p := Nat.mod_lt _ (by omega)
  have h2 : k / p < q := Nat.div_lt_of_lt_mul hk
  refine ⟨?_, h2, h1⟩
  unfold bAt
  have h3 : (y + k / p + 1) * a ≤ b * a := Nat.mul_le_mul_right _ (by omega)
  rw [Nat.succ_mul] at h3
  rw [Nat.mul_comm a b]
  omega
abbrev always (_ : Nat) : Bool := true
def putOk (W H : Int) (s : List Int) (t : List Bool) (x y p q : Int) (l : List Int) : Bool :=
  validFilm W H s t && (insideF x y p q W H && (decide ((l.length : Int) = p * q) && (allIn l 0 256 && okTo (bAt W.toNat x.toNat y.toNat p.toNat) always (atI l) s t l.length)))
def putS (W H : Int) (s : List Int) (t : List Bool) (x y p q : Int) (l : List Int) : List Int := if putOk W H s t x y p q l then pixTo (bAt W.toNat x.toNat y.toNat p.toNat) always (atI l) s l.length else s
def putT (W H : Int) (s : List Int) (t : List Bool) (x y p q : Int) (l : List Int) : List Bool := if putOk W H s t x y p q l then donTo (bAt W.toNat x.toNat y.toNat p.toNat) always t l.length else t
theorem putS_len (W H : Int) (s : List Int) (t : List Bool) (x y p q : Int) (l : List Int) : (putS W H s t x y p q l).length = s.length := by unfold putS; split; exact pixTo_len _ _; rfl
theorem putT_len (W H : Int) (s : List Int) (t : List Bool) (x y p q : Int) (l : List Int) : (putT W H s t x y p q l).length = t.length := by unfold putT; split; exact donTo_len _ _; rfl
def PutR (W H : Int) (n m : Nat) (ok : Bool) (l : List Int) (d : List Bool) (w : World) : Ending → World → Prop :=
  MadeFilm (fun s0 s1 => .tuple #[vFilm W H s0 s1, .bool ok]) n (ints l) m (bools d) w
theorem validFilm_small {W H : Int} {s : List Int} {t : List Bool} (h : validFilm W H s t = true) : (1 ≤ W ∧ W ≤ 12) ∧ (1 ≤ H ∧ H ≤ 12) ∧ s.length ≤ 144 := by
  obtain ⟨_, _, _, _, _, a, b, c, _⟩ := validFilm_true h
  exact ⟨a, b, c⟩
theorem film_nat {W H : Int} {s : List Int} {t : List Bool} {x y p q : Int} (hv : validFilm W H s t = true) (hi : insideF x y p q W H = true) :
    ∃ a b xn yn pn qn : Nat, W = a ∧ H = b ∧ x = xn ∧ y = yn ∧ p = pn ∧ q = qn ∧ (1 ≤ a ∧ a ≤ 12) ∧ (1 ≤ b ∧ b ≤ 12) ∧ xn + pn ≤ a ∧ yn + qn ≤ b ∧ 1 ≤ pn ∧ 1 ≤ qn ∧ s.length = a * b ∧ t.length = a * b := by
  obtain ⟨_, h5, h6, _, _, u1, u2, _, _⟩ := validFilm_true hv
  obtain ⟨h1, h2, h3, h4⟩ := insideF_true hi
  obtain ⟨a, rfl⟩ := Int.eq_ofNat_of_zero_le (show 0 ≤ W by omega)
  obtain ⟨b, rfl⟩ := Int.eq_ofNat_of_zero_le (show 0 ≤ H by omega)
  obtain ⟨xn, rfl⟩ := Int.eq_ofNat_of_zero_le (show 0 ≤ x by omega)
  obtain ⟨yn, rfl⟩ := Int.eq_ofNat_of_zero_le (show 0 ≤ y by omega)
  obtain ⟨pn, rfl⟩ := Int.eq_ofNat_of_zero_le (show 0 ≤ p by omega)
  obtain ⟨qn, rfl⟩ := Int.eq_ofNat_of_zero_le (show 0 ≤ q by omega)
  rw [← Int.natCast_mul] at h5 h6
  exact ⟨a, b, xn, yn, pn, qn, rfl, rfl, rfl, rfl, rfl, rfl, by omega, by omega, by omega, by omega, by omega, by omega, by omega, by omega⟩
theorem put_ways (W H : Int) (s : List Int) (t : List Bool) (x y p q : Int) (l : List Int) :
    (validFilm W H s t = false ∧ Hid (putOk W H s t x y p q l = false)) ∨ (validFilm W H s t = true ∧ insideF x y p q W H = false ∧ Hid (putOk W H s t x y p q l = false)) ∨
    (validFilm W H s t = true ∧ insideF x y p q W H = true ∧ ¬ (l.length : Int) = p * q ∧ Hid (putOk W H s t x y p q l = false)) ∨
    (validFilm W H s t = true ∧ insideF x y p q W H = true ∧ (l.length : Int) = p * q ∧ Hid (putOk W H s t x y p q l = (allIn l 0 256 && okTo (bAt W.toNat x.toNat y.toNat p.toNat) always (atI l) s t l.length))) := by
  unfold Hid putOk
  cases h1 : validFilm W H s t <;> cases h2 : insideF x y p q W H <;> by_cases h3 : (l.length : Int) = p * q <;> simp [h3]
theorem allIn_at {l : List Int} {k : Nat} {lo hi : Int} (hk : k < l.length) (h : inB l[k] lo hi = false) : allIn l lo hi = false := by
  unfold allIn; rw [List.all_eq_false]; exact ⟨_, List.getElem_mem hk, by simp [h]⟩
/-- Number k, divided by the width: in the ints. -/
theorem divs_of {k p q r : Nat} (h1 : k / p = q) (h2 : k % p = r) (hp : 1 ≤ p) : Int.tdiv (k : Int) (p : Int) = (q : Int) ∧ Int.tmod (k : Int) (p : Int) = (r : Int) ∧ ((p : Int) == 0) = false := by
  refine ⟨?_, ?_, ?_⟩
  · rw [Int.tdiv_eq_ediv_of_nonneg (by omega), ← h1]; rfl
  · rw [Int.tmod_eq_emod_of_nonneg (by omega), ← h2]; rfl
  · rw [beq_eq_false_iff_ne]; omega
end Go.Proofs.Ythpanpedoeghoaa
