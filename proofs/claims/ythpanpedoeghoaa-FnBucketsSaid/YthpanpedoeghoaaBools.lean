/- MADE BY PROGRAM (genbools.py) out of the text on bools. The laws' own helpers on slices of bools: szBoolS, toBoolS, eqBoolS. -/
import Derived.Test.YthpanpedoeghoaaInts
set_option linter.unusedVariables false
set_option linter.unusedSimpArgs false
set_option linter.unnecessarySimpa false
namespace Go.Proofs.Ythpanpedoeghoaa
open Go.RowKit
set_option linter.unusedVariables false
def SameToB (l m : List Bool) (k : Nat) : Prop := l.take k = m.take k
theorem SameToB.succ {l m : List Bool} {k : Nat} (h : SameToB l m k) (hl : k < l.length) (hm : k < m.length) (e : l[k] = m[k]) : SameToB l m (k + 1) := by
  unfold SameToB at *
  rw [List.take_succ_eq_append_getElem hl, List.take_succ_eq_append_getElem hm, h, e]
theorem SameToB.whole {l m : List Bool} (h : SameToB l m l.length) (hlen : l.length = m.length) : l = m := by
  unfold SameToB at h
  rwa [List.take_of_length_le (Nat.le_refl _), hlen, List.take_of_length_le (Nat.le_refl _)] at h
theorem bools_at {l : List Bool} {k : Nat} (h : k < l.length) : (bools l)[k]? = some (.bool l[k]) := by simp [h]
theorem T.infoBool : (Try.prog.info? 4).map (fun i => (i.zero, i.size, i.bytes)) = some (some (.bool false), 1, 1) := by kernel_rfl
def FilledB (l : List Bool) (cs : List Value) (k : Nat) : Prop := cs.length = l.length ∧ ∀ j, j < k → cs[j]? = (bools l)[j]?
theorem FilledB.succ {l : List Bool} {cs : List Value} {k : Nat} (h : FilledB l cs k) (hk : k < l.length) : FilledB l (cs.set k (.bool l[k])) (k + 1) := by
  refine ⟨by rw [List.length_set]; exact h.1, fun j hj => ?_⟩
  by_cases e : k = j
  · subst e; rw [List.getElem?_set_self (by rw [h.1]; exact hk), bools_at hk]
  · rw [List.getElem?_set_ne e]; exact h.2 j (by omega)
def OutBools (l : List Bool) (w : World) (e : Ending) (w' : World) : Prop :=
  e = .returned (sl w.heap.size l.length) ∧ Own w' w.heap.size 4 (bools l) ∧ RS w' 1 (some ⟨w.heap.size, 0, none⟩) l.length l.length (bools l) ∧ Below w.heap.size w w'
