/- MADE BY PROGRAM (genmarks.py). The laws' marks in rows of bools and of flat structs of ints. -/
import Derived.Test.YthpanpedoeghoaaMark
import Derived.Test.YthpanpedoeghoaaPairs
set_option linter.unusedVariables false
set_option linter.unusedSimpArgs false
set_option linter.unnecessarySimpa false
namespace Go.Proofs.Ythpanpedoeghoaa
open Go.RowKit
set_option linter.unusedVariables false
/-- The marks of a row of bools. -/
def thirds (k : Int) (n : Nat) : List Bool := (List.range n).map (fun (i : Nat) => decide ((k + i) % 3 = 0))
theorem thirds_len (k : Int) (n : Nat) : (thirds k n).length = n := by simp [thirds]
theorem thirds_at {k : Int} {n i : Nat} (h : i < n) : (bools (thirds k n))[i]? = some (.bool (decide ((k + i) % 3 = 0))) := by simp [thirds, h]
/-- Marked up to cell i, cells xs at last. -/
def MarkedC (xs cs : List Value) (i : Nat) : Prop := cs.length = xs.length ∧ ∀ j, j < i → cs[j]? = xs[j]?
theorem MarkedC.succ {xs cs : List Value} {i : Nat} {v : Value} (h : MarkedC xs cs i) (hv : xs[i]? = some v) : MarkedC xs (cs.set i v) (i + 1) := by
  have hi : i < xs.length := by
    rcases Nat.lt_or_ge i xs.length with h | h
    · exact h
    · rw [List.getElem?_eq_none h] at hv; cases hv
  refine ⟨by rw [List.length_set]; exact h.1, fun j hj => ?_⟩
  by_cases e : i = j
  · subst e; rw [List.getElem?_set_self (by rw [h.1]; exact hi), hv]
  · rw [List.getElem?_set_ne e]; exact h.2 j (by omega)
theorem MarkedC.all {xs cs : List Value} {i : Nat} (h : MarkedC xs cs i) (hi : xs.length ≤ i) : cs = xs := by
  apply List.ext_getElem?
  intro j
  by_cases hj : j < xs.length
  · exact h.2 j (by omega)
  · rw [List.getElem?_eq_none (by rw [h.1]; omega), List.getElem?_eq_none (by omega)]
theorem upFrom_cell {k : Int} {N i : Nat} (h : i < N) : (ints (upFrom k N))[i]? = some (.int .i64 (k + i)) := upFrom_at h
end Go.Proofs.Ythpanpedoeghoaa
