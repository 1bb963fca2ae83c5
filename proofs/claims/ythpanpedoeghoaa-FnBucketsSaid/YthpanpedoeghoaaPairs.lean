/- MADE BY PROGRAM (genpairs.py). Slices of flat structs of ints as lists of tuples: the laws' szTS, toTS, eqTS (on equal lists); an argument of such a type. -/
import Derived.Test.YthpanpedoeghoaaRecs
import Derived.Test.YthpanpedoeghoaaFlat
import Derived.Deep.RegionHeld3
set_option linter.unusedVariables false
set_option linter.unusedSimpArgs false
set_option linter.unnecessarySimpa false
namespace Go.Proofs.Ythpanpedoeghoaa
open Go.ChangeShapes Go.WideShapes Go.ChangeAt Go.RowKit
set_option linter.unusedVariables false
/-- The cells of a list of structs, one behind the other. -/
def rowOf {α : Type} (f : α → List Value) (l : List α) : List Value := l.flatMap f
theorem rowOf_len {α : Type} {f : α → List Value} {s : Nat} (hf : ∀ a, (f a).length = s) (l : List α) : (rowOf f l).length = l.length * s := by
  unfold rowOf
  induction l with
  | nil => simp
  | cons a l ih => rw [List.flatMap_cons, List.length_append, hf, ih, List.length_cons, Nat.succ_mul, Nat.add_comm]
theorem rowOf_at {α : Type} {f : α → List Value} {s : Nat} (hf : ∀ a, (f a).length = s) : ∀ (l : List α) (k j : Nat) (hk : k < l.length) (_ : j < s), (rowOf f l)[k * s + j]? = (f l[k])[j]?
  | [], k, j, hk, _ => absurd hk (by simp)
  | a :: l, 0, j, hk, hj => by
    show (a :: l |>.flatMap f)[0 * s + j]? = _
    rw [List.flatMap_cons, List.getElem?_append_left (by rw [hf]; omega), Nat.zero_mul, Nat.zero_add]
    rfl
  | a :: l, k + 1, j, hk, hj => by
    show (a :: l |>.flatMap f)[(k + 1) * s + j]? = _
    rw [List.flatMap_cons, List.getElem?_append_right (by rw [hf, Nat.succ_mul]; omega), hf, Nat.succ_mul, show k * s + s + j - s = k * s + j by omega]
    exact rowOf_at hf l k j (by simpa using hk) hj
/-- Filled up to element k. -/
def FillR (s : Nat) (xs cs : List Value) (n k : Nat) : Prop := cs.length = n * s ∧ ∀ j, j < k * s → cs[j]? = xs[j]?
theorem FillR.succ {s n k : Nat} {xs cs cs' : List Value} (h : FillR s xs cs n k) (hl : cs'.length = cs.length) (h1 : ∀ j, j < k * s → cs'[j]? = cs[j]?) (h2 : ∀ j, j < s → cs'[k * s + j]? = xs[k * s + j]?) : FillR s xs cs' n (k + 1) := by
  refine ⟨hl.trans h.1, fun j hj => ?_⟩
  rw [Nat.succ_mul] at hj
  by_cases e : j < k * s
  · rw [h1 j e, h.2 j e]
  · have := h2 (j - k * s) (by omega)
    rwa [show k * s + (j - k * s) = j by omega] at this
theorem FillR.whole {s n : Nat} {xs cs : List Value} (h : FillR s xs cs n n) (hx : xs.length = n * s) : cs = xs := by
  apply List.ext_getElem?
  intro j
  by_cases hj : j < n * s
  · exact h.2 j hj
  · rw [List.getElem?_eq_none (by rw [h.1]; omega), List.getElem?_eq_none (by omega)]
abbrev EDeepStep : Type := Int × Int
def cDeepStep (p : EDeepStep) : List Value := [.int .i64 p.1, .int .i64 p.2]
abbrev rDeepStep (l : List EDeepStep) : List Value := rowOf cDeepStep l
theorem rDeepStep_len (l : List EDeepStep) : (rDeepStep l).length = l.length * 2 := rowOf_len (f := cDeepStep) (s := 2) (fun _ => rfl) l
theorem rDeepStep_at {l : List EDeepStep} {k : Nat} (hk : k < l.length) : (rDeepStep l)[k * 2]? = some (.int .i64 l[k].1) ∧ (rDeepStep l)[k * 2 + 1]? = some (.int .i64 l[k].2) := by
  have h := rowOf_at (f := cDeepStep) (s := 2) (fun _ => rfl) l k
  exact ⟨h 0 hk (by omega), h 1 hk (by omega)⟩
abbrev EBucket : Type := Int × Int × Int × Int
def cBucket (p : EBucket) : List Value := [.int .i64 p.1, .int .i64 p.2.1, .int .i64 p.2.2.1, .int .i64 p.2.2.2]
abbrev rBucket (l : List EBucket) : List Value := rowOf cBucket l
theorem rBucket_len (l : List EBucket) : (rBucket l).length = l.length * 4 := rowOf_len (f := cBucket) (s := 4) (fun _ => rfl) l
theorem rBucket_at {l : List EBucket} {k : Nat} (hk : k < l.length) : (rBucket l)[k * 4]? = some (.int .i64 l[k].1) ∧ (rBucket l)[k * 4 + 1]? = some (.int .i64 l[k].2.1) ∧ (rBucket l)[k * 4 + 2]? = some (.int .i64 l[k].2.2.1) ∧ (rBucket l)[k * 4 + 3]? = some (.int .i64 l[k].2.2.2) := by
  have h := rowOf_at (f := cBucket) (s := 4) (fun _ => rfl) l k
  exact ⟨h 0 hk (by omega), h 1 hk (by omega), h 2 hk (by omega), h 3 hk (by omega)⟩
abbrev EFragment : Type := Int × Int × Int × Int × Int
def cFragment (p : EFragment) : List Value := [.int .i64 p.1, .int .i64 p.2.1, .int .i64 p.2.2.1, .int .i64 p.2.2.2.1, .int .i64 p.2.2.2.2]
abbrev rFragment (l : List EFragment) : List Value := rowOf cFragment l
theorem rFragment_len (l : List EFragment) : (rFragment l).length = l.length * 5 := rowOf_len (f := cFragment) (s := 5) (fun _ => rfl) l
theorem rFragment_at {l : List EFragment} {k : Nat} (hk : k < l.length) : (rFragment l)[k * 5]? = some (.int .i64 l[k].1) ∧ (rFragment l)[k * 5 + 1]? = some (.int .i64 l[k].2.1) ∧ (rFragment l)[k * 5 + 2]? = some (.int .i64 l[k].2.2.1) ∧ (rFragment l)[k * 5 + 3]? = some (.int .i64 l[k].2.2.2.1) ∧ (rFragment l)[k * 5 + 4]? = some (.int .i64 l[k].2.2.2.2) := by
  have h := rowOf_at (f := cFragment) (s := 5) (fun _ => rfl) l k
  exact ⟨h 0 hk (by omega), h 1 hk (by omega), h 2 hk (by omega), h 3 hk (by omega), h 4 hk (by omega)⟩
end Go.Proofs.Ythpanpedoeghoaa
