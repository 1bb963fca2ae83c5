/- The laws' own helpers on slices of ints: szIntS, toIntS, eqIntS; and slices.Equal at ints. -/
import Derived.Test.YthpanpedoeghoaaRows
import Derived.Test.YthpanpedoeghoaaMem
import Derived.BigQuiet
import Derived.Deep.QuietTactic
set_option linter.unusedVariables false
set_option linter.unusedSimpArgs false
set_option linter.unnecessarySimpa false
namespace Go.Proofs.Ythpanpedoeghoaa
open Go.RowKit
set_option linter.unusedVariables false
def szF (left : Int) (n : Nat) : Int := if left < n then -1 else left - n
theorem szF_big {left : Int} {n : Nat} (h : left < n) : szF left n = -1 := by unfold szF; rw [if_pos h]
theorem szF_small {left : Int} {n : Nat} (h : n ≤ left) : 0 ≤ szF left n ∧ szF left n ≤ left := by unfold szF; rw [if_neg (by omega)]; omega
theorem szF_neg {left : Int} {n : Nat} (h : szF left n < 0) : left < n := by
  rcases Int.lt_or_le left n with h1 | h1
  · exact h1
  · have := (szF_small h1).1; omega
def SameTo (l m : List Int) (k : Nat) : Prop := l.take k = m.take k
theorem SameTo.succ {l m : List Int} {k : Nat} (h : SameTo l m k) (hl : k < l.length) (hm : k < m.length) (e : l[k] = m[k]) : SameTo l m (k + 1) := by
  unfold SameTo at *
  rw [List.take_succ_eq_append_getElem hl, List.take_succ_eq_append_getElem hm, h, e]
theorem SameTo.whole {l m : List Int} (h : SameTo l m l.length) (hlen : l.length = m.length) : l = m := by
  unfold SameTo at h
  rwa [List.take_of_length_le (Nat.le_refl _), hlen, List.take_of_length_le (Nat.le_refl _)] at h
theorem ints_at {l : List Int} {k : Nat} (h : k < l.length) : (ints l)[k]? = some (.int .i64 l[k]) := by simp [h]
theorem T.infoInt : (Try.prog.info? 3).map (fun i => (i.zero, i.size, i.bytes)) = some (some (.int .i64 0), 1, 8) := by kernel_rfl
def Filled (l : List Int) (cs : List Value) (k : Nat) : Prop := cs.length = l.length ∧ ∀ j, j < k → cs[j]? = (ints l)[j]?
theorem Filled.succ {l : List Int} {cs : List Value} {k : Nat} (h : Filled l cs k) (hk : k < l.length) : Filled l (cs.set k (.int .i64 l[k])) (k + 1) := by
  refine ⟨by rw [List.length_set]; exact h.1, fun j hj => ?_⟩
  by_cases e : k = j
  · subst e; rw [List.getElem?_set_self (by rw [h.1]; exact hk), ints_at hk]
  · rw [List.getElem?_set_ne e]; exact h.2 j (by omega)
def OutInts (l : List Int) (w : World) (e : Ending) (w' : World) : Prop :=
  e = .returned (sl w.heap.size l.length) ∧ Own w' w.heap.size 3 (ints l) ∧ RS w' 1 (some ⟨w.heap.size, 0, none⟩) l.length l.length (ints l) ∧ Below w.heap.size w w'
