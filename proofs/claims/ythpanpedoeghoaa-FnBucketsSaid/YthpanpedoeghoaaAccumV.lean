/- IsValidAccum of the reference and of the program. -/
import Derived.Test.YthpanpedoeghoaaImageV
set_option linter.unusedVariables false
set_option linter.unusedSimpArgs false
set_option linter.unnecessarySimpa false
namespace Go.Proofs.Ythpanpedoeghoaa
open Go.RowKit
set_option linter.unusedVariables false
/-! ### all pairs of two lists -/
section
variable {α β : Type} {s : List α} {t : List β} {f : α × β → Bool} {k : Nat}
theorem zip_take (h : ((s.zip t).take k).all f = true) (h1 : k < s.length) (h2 : k < t.length) (e : f (s[k], t[k]) = true) : ((s.zip t).take (k + 1)).all f = true := by
  have hk : k < (s.zip t).length := by simp; omega
  rw [List.take_succ_eq_append_getElem hk, List.all_append, h]
  simp [e]
theorem zip_false (h1 : k < s.length) (h2 : k < t.length) (e : f (s[k], t[k]) = false) : (s.zip t).all f = false := by
  have hk : k < (s.zip t).length := by simp; omega
  rw [List.all_eq_false]
  exact ⟨(s.zip t)[k], List.getElem_mem hk, by simp [e]⟩
theorem zip_get (h : (s.zip t).all f = true) (h1 : k < s.length) (h2 : k < t.length) : f (s[k], t[k]) = true := by
  have hk : k < (s.zip t).length := by simp; omega
  rw [List.all_eq_true] at h
  have := h _ (List.getElem_mem hk)
  simpa using this
theorem zip_whole (h : ((s.zip t).take k).all f = true) (hk : (s.zip t).length ≤ k) : (s.zip t).all f = true := by
  rwa [List.take_of_length_le hk] at h
end
/-- The outcomes of the tests on a size and two lengths. -/
theorem head_cases (W H : Int) (n m : Nat) : (sizeB W H = true ∧ inB W 1 12 = true ∧ inB H 1 12 = true ∧ IntKind.i64.wrap (W * H) = W * H ∧ (1 ≤ W * H ∧ W * H ≤ 144) ∧ ((n : Int) != W * H) = false ∧ ((m : Int) != W * H) = false ∧ Hid ((n : Int) = W * H ∧ (m : Int) = W * H)) ∨
    (sizeB W H = true ∧ inB W 1 12 = true ∧ inB H 1 12 = true ∧ IntKind.i64.wrap (W * H) = W * H ∧ (1 ≤ W * H ∧ W * H ≤ 144) ∧ ((n : Int) != W * H) = true ∧ Hid (¬ (n : Int) = W * H)) ∨
    (sizeB W H = true ∧ inB W 1 12 = true ∧ inB H 1 12 = true ∧ IntKind.i64.wrap (W * H) = W * H ∧ (1 ≤ W * H ∧ W * H ≤ 144) ∧ ((n : Int) != W * H) = false ∧ ((m : Int) != W * H) = true ∧ Hid (¬ (m : Int) = W * H)) ∨
    (sizeB W H = false ∧ inB W 1 12 = true ∧ inB H 1 12 = false) ∨ (sizeB W H = false ∧ inB W 1 12 = false) := by
  rcases sizeB_cases W H with ⟨h1, h2, h3⟩ | ⟨h1, h2⟩ | ⟨h1, h2, h3⟩
  · have ha := area_rng h1
    have hp : IntKind.i64.wrap (W * H) = W * H := IntWalk.i64_in _ (by omega)
    by_cases hn : (n : Int) = W * H
    · by_cases hm : (m : Int) = W * H
      · exact .inl ⟨h1, h2, h3, hp, ha, by simp [hn], by simp [hm], ⟨hn, hm⟩⟩
      · exact .inr (.inr (.inl ⟨h1, h2, h3, hp, ha, by simp [hn], by simp [hm], hm⟩))
    · exact .inr (.inl ⟨h1, h2, h3, hp, ha, by simp [hn], hn⟩)
  · exact .inr (.inr (.inr (.inr ⟨h1, h2⟩)))
  · exact .inr (.inr (.inr (.inl ⟨h1, h2, h3⟩)))
def accPair (p : Int × Int) : Bool := inB p.2 0 1000000000 && inB p.1 0 (256 * p.2)
def validAcc (W H : Int) (s t : List Int) : Bool := sizeB W H && (decide ((s.length : Int) = W * H) && (decide ((t.length : Int) = W * H) && (s.zip t).all accPair))
theorem validAcc_yes {W H : Int} {s t : List Int} (h1 : sizeB W H = true) (h2 : (s.length : Int) = W * H ∧ (t.length : Int) = W * H) : validAcc W H s t = (s.zip t).all accPair := by
  unfold validAcc; rw [h1]; simp [h2]
theorem validAcc_n {W H : Int} {s t : List Int} (h : ¬ (s.length : Int) = W * H) : validAcc W H s t = false := by unfold validAcc; simp [h]
theorem validAcc_m {W H : Int} {s t : List Int} (h : ¬ (t.length : Int) = W * H) : validAcc W H s t = false := by unfold validAcc; simp [h]
theorem validAcc_s {W H : Int} {s t : List Int} (h : sizeB W H = false) : validAcc W H s t = false := by unfold validAcc; simp [h]
end Go.Proofs.Ythpanpedoeghoaa
