/- Texts cut at a byte, in plain Lean; a record's line taken apart. -/
import Derived.Test.YtlepnjahpmlccaaDoorTxtL
import Derived.Lib.IndexMore
namespace Go.Proofs.YtlepnjahpmlccaaDoor
open Go.RowKit Go.Lib
set_option linter.unusedVariables false
/-- The pieces between the bytes b. -/
def splitB (b : UInt8) : List UInt8 → List (List UInt8)
  | [] => [[]]
  | x :: l => if x = b then [] :: splitB b l else match splitB b l with
    | [] => [[x]]
    | h :: t => (x :: h) :: t
theorem splitB_none {b : UInt8} : ∀ {u : List UInt8}, (∀ x ∈ u, x ≠ b) → splitB b u = [u]
  | [], _ => rfl
  | x :: u, h => by
    have ih := splitB_none (b := b) (u := u) (fun y hy => h y (by simp [hy]))
    unfold splitB
    rw [if_neg (h x (by simp)), ih]
theorem splitB_cut {b : UInt8} : ∀ {u : List UInt8} (v : List UInt8), (∀ x ∈ u, x ≠ b) → splitB b (u ++ b :: v) = u :: splitB b v
  | [], v, _ => by
    rw [List.nil_append]
    conv => lhs; unfold splitB
    rw [if_pos rfl]
  | x :: u, v, h => by
    have ih := splitB_cut (b := b) (u := u) v (fun y hy => h y (by simp [hy]))
    rw [List.cons_append]
    conv => lhs; unfold splitB
    rw [if_neg (h x (by simp)), ih]
theorem drop_split {l : List UInt8} {f i : Nat} (h : f ≤ i) (hi : i < l.length) : l.drop f = (l.take i).drop f ++ l[i] :: l.drop (i + 1) := by
  conv => lhs; rw [← List.take_append_drop i l]
  rw [List.drop_append_of_le_length (by simp; omega), List.drop_eq_getElem_cons hi]
theorem str_extract (l : List UInt8) (a b : Nat) : ({ data := l.toArray } : ByteArray).extract a b = ⟨((l.take b).drop a).toArray⟩ := by
  apply ByteArray.ext
  rw [ByteArray.data_extract]
  apply Array.ext'
  simp [List.extract_eq_take_drop, List.drop_take]
theorem splitB_mem {b : UInt8} : ∀ {l p : List UInt8}, p ∈ splitB b l → p.length ≤ l.length
  | [], p, h => by
    rw [show splitB b [] = [[]] from rfl] at h
    simp at h; subst h; simp
  | x :: l, p, h => by
    have ih := fun {q : List UInt8} (hq : q ∈ splitB b l) => splitB_mem (b := b) hq
    unfold splitB at h
    by_cases hx : x = b
    · rw [if_pos hx] at h
      rcases List.mem_cons.1 h with rfl | h
      · simp
      · have := ih h; simp; omega
    · rw [if_neg hx] at h
      cases hs : splitB b l with
      | nil => rw [hs] at h; simp at h; subst h; simp
      | cons a t =>
        rw [hs] at h
        simp only at h
        rcases List.mem_cons.1 h with rfl | h
        · have := ih (q := a) (by rw [hs]; simp)
          simp; omega
        · have := ih (q := p) (by rw [hs]; simp [h])
          simp; omega
theorem splitB_pos (b : UInt8) (l : List UInt8) : 0 < (splitB b l).length := by
  cases l with
  | nil => simp [splitB]
  | cons x l =>
    unfold splitB
    split
    · simp
    · split <;> simp
theorem splitB_len (b : UInt8) : ∀ l : List UInt8, (splitB b l).length ≤ l.length + 1
  | [] => by simp [splitB]
  | x :: l => by
    have ih := splitB_len b l
    have h0 := splitB_pos b l
    unfold splitB
    split
    · simp; omega
    · split
      · simp
      · rename_i h t e; rw [e] at ih; simp at ih ⊢; omega
end Go.Proofs.YtlepnjahpmlccaaDoor
