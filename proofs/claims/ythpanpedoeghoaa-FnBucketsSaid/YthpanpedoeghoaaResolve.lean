/- ResolveAccum of the reference and of the program. -/
import Derived.Test.YthpanpedoeghoaaAccumV
import Derived.Test.YthpanpedoeghoaaDivs
import Derived.Test.YthpanpedoeghoaaMade
set_option linter.unusedVariables false
set_option linter.unusedSimpArgs false
set_option linter.unnecessarySimpa false
namespace Go.Proofs.Ythpanpedoeghoaa
open Go.RowKit
set_option linter.unusedVariables false
theorem validAcc_true {W H : Int} {s t : List Int} (h : validAcc W H s t = true) : sizeB W H = true ∧ (s.length : Int) = W * H ∧ (t.length : Int) = W * H ∧ s.length = t.length ∧ s.length ≤ 144 ∧ (1 ≤ W ∧ W ≤ 12) ∧ (1 ≤ H ∧ H ≤ 12) := by
  unfold validAcc at h
  simp only [Bool.and_eq_true, decide_eq_true_eq] at h
  obtain ⟨h1, h2, h3, h4⟩ := h
  have := area_rng h1
  exact ⟨h1, h2, h3, by omega, by omega, sizeB_true h1⟩
theorem validAcc_get {W H : Int} {s t : List Int} (h : validAcc W H s t = true) {k : Nat} (hs : k < s.length) (ht : k < t.length) : (0 ≤ t[k] ∧ t[k] ≤ 1000000000) ∧ 0 ≤ s[k] ∧ s[k] ≤ 256 * t[k] := by
  unfold validAcc at h
  simp only [Bool.and_eq_true, decide_eq_true_eq] at h
  obtain ⟨h1, h2, h3, h4⟩ := h
  have := zip_get h4 hs ht
  simp only [accPair, Bool.and_eq_true] at this
  exact ⟨inB_true this.1, inB_true this.2⟩
def resTo (s t : List Int) (k : Nat) : List Int := ((s.zip t).take k).map (fun p => fdivF p.1 p.2)
theorem resTo_succ {s t : List Int} {k : Nat} (hs : k < s.length) (ht : k < t.length) : resTo s t (k + 1) = resTo s t k ++ [fdivF s[k] t[k]] := by
  have hk : k < (s.zip t).length := by simp; omega
  unfold resTo
  rw [List.take_succ_eq_append_getElem hk, List.map_append]
  simp
theorem resTo_len {s t : List Int} {k : Nat} (h : s.length = t.length) (hk : k ≤ s.length) : (resTo s t k).length = k := by unfold resTo; simp; omega
def resF (W H : Int) (s t : List Int) : List Int := if validAcc W H s t then resTo s t s.length else []
theorem resF_len (W H : Int) (s t : List Int) : (resF W H s t).length ≤ 144 := by
  unfold resF
  split
  · next h =>
    obtain ⟨_, _, _, h1, h2, _⟩ := validAcc_true h
    rw [resTo_len h1 (Nat.le_refl _)]; exact h2
  · simp
theorem ints_snoc (l : List Int) (x : Int) : ints l ++ ints [x] = ints (l ++ [x]) := by simp
end Go.Proofs.Ythpanpedoeghoaa
