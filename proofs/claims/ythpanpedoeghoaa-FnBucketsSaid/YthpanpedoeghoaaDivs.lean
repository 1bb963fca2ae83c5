/- FloorDiv, floorMod; a hash of ints. -/
import Derived.Test.YthpanpedoeghoaaPure
import Derived.Test.YthpanpedoeghoaaInts
import Derived.StillTailTactics
set_option linter.unusedVariables false
set_option linter.unusedSimpArgs false
set_option linter.unnecessarySimpa false
namespace Go.Proofs.Ythpanpedoeghoaa
open Go.RowKit
set_option linter.unusedVariables false
def fdivF (a b : Int) : Int := if b < 1 then 0 else a / b
theorem tdiv_neg {a b : Int} (ha : a < 0) (hb : 1 ≤ b) : a ≤ a.tdiv b ∧ a.tdiv b ≤ 0 ∧ -b < a.tmod b ∧ a.tmod b ≤ 0 ∧ (a.tmod b < 0 → a ≤ a.tdiv b - 1 ∧ a / b = a.tdiv b - 1) ∧ (¬ a.tmod b < 0 → a / b = a.tdiv b) := by
  have h1 := Int.mul_tdiv_add_tmod a b
  have h4 : a.tmod b ≤ 0 := by
    have := Int.tmod_nonneg (a := -a) b (by omega)
    rw [Int.neg_tmod] at this; omega
  have h5 : -b < a.tmod b := by
    have := Int.tmod_lt_of_pos (-a) (b := b) (by omega)
    rw [Int.neg_tmod] at this; omega
  have h3 : a.tdiv b ≤ 0 := by
    have := Int.tdiv_nonneg (a := -a) (b := b) (by omega) (by omega)
    rw [Int.neg_tdiv] at this; omega
  have h6 : b * a.tdiv b ≤ a.tdiv b := by
    have := Int.mul_le_mul_of_nonpos_right (a := b) (b := 1) (c := a.tdiv b) (by omega) h3
    omega
  have h7 : a ≤ a.tdiv b := by
    rcases Int.lt_or_le (a.tmod b) 0 with h | h
    · have hb2 : 2 ≤ b := by omega
      rcases Int.lt_or_le (a.tdiv b) 0 with hq | hq
      · have : b * a.tdiv b ≤ 2 * a.tdiv b := Int.mul_le_mul_of_nonpos_right hb2 h3
        omega
      · omega
    · omega
  refine ⟨h7, h3, h5, h4, fun h => ?_, fun h => ?_⟩
  · have hb2 : 2 ≤ b := by omega
    refine ⟨?_, ?_⟩
    · rcases Int.lt_or_le (a.tdiv b) 0 with hq | hq
      · have : b * a.tdiv b ≤ 2 * a.tdiv b := Int.mul_le_mul_of_nonpos_right hb2 h3
        omega
      · omega
    · have e : a = (a.tmod b + b) + b * (a.tdiv b - 1) := by rw [Int.mul_sub, Int.mul_one]; omega
      rw [e, Int.add_mul_ediv_left _ _ (by omega), Int.ediv_eq_zero_of_lt (by omega) (by omega)]
      rw [← e]; omega
  · have e : a = b * a.tdiv b := by omega
    have hd : b ∣ a := ⟨_, e⟩
    exact (Int.tdiv_eq_ediv_of_dvd hd).symm
theorem fdivF_neg {a b : Int} (ha : a < 0) (hb : 1 ≤ b) : (a.tmod b < 0 ∧ a ≤ a.tdiv b - 1 ∧ a.tdiv b ≤ 0 ∧ fdivF a b = a.tdiv b - 1) ∨ (¬ a.tmod b < 0 ∧ a ≤ a.tdiv b ∧ a.tdiv b ≤ 0 ∧ fdivF a b = a.tdiv b) := by
  obtain ⟨h1, h2, h3, h4, h5, h6⟩ := tdiv_neg ha hb
  have e : fdivF a b = a / b := by unfold fdivF; rw [if_neg (by omega)]
  by_cases h : a.tmod b < 0
  · exact .inl ⟨h, (h5 h).1, h2, e.trans (h5 h).2⟩
  · exact .inr ⟨h, h1, h2, e.trans (h6 h)⟩
theorem fdivF_rng {a b : Int} (hb : 1 ≤ b) : fdivF a b = a / b ∧ a - fdivF a b * b = a % b := by
  have e : fdivF a b = a / b := by unfold fdivF; rw [if_neg (by omega)]
  refine ⟨e, ?_⟩
  rw [e, Int.emod_def, Int.mul_comm]
theorem wrap_sub {a r : Int} (h1 : 0 ≤ r) (h2 : r ≤ 9223372036854775807) : wrap64 (a - wrap64 (a - r)) = r := by
  have hb : (2 : Int) ^ IntKind.i64.bits = 18446744073709551616 := rfl
  have hc : (2 : Int) ^ (IntKind.i64.bits - 1) = 9223372036854775808 := rfl
  have hs : IntKind.i64.signed = true := rfl
  simp only [wrap64]
  omega
/-- One step of the hash. -/
def hashStep (h x : Int) : Int := (31 * h + clampF x (-1000000000) 1000000000) % 1000003
def hashF (l : List Int) : Int := l.foldl hashStep 17
theorem clampF_rng (x : Int) : -1000000000 ≤ clampF x (-1000000000) 1000000000 ∧ clampF x (-1000000000) 1000000000 ≤ 1000000000 := by unfold clampF; (repeat' split) <;> omega
theorem hashStep_rng (h x : Int) : 0 ≤ hashStep h x ∧ hashStep h x < 1000003 := by unfold hashStep; omega
theorem hashF_rng (l : List Int) : 0 ≤ hashF l ∧ hashF l < 1000003 := by
  have key : ∀ (l : List Int) (h : Int), (0 ≤ h ∧ h < 1000003) → 0 ≤ l.foldl hashStep h ∧ l.foldl hashStep h < 1000003 := by
    intro l
    induction l with
    | nil => exact fun h hh => hh
    | cons x l ih => exact fun h _ => ih _ (hashStep_rng h x)
  exact key l 17 ⟨by decide, by decide⟩
theorem hashF_succ {l : List Int} {k : Nat} (h : k < l.length) : hashF (l.take (k + 1)) = hashStep (hashF (l.take k)) l[k] := by
  unfold hashF
  rw [List.take_succ_eq_append_getElem h, List.foldl_append]; rfl
end Go.Proofs.Ythpanpedoeghoaa
