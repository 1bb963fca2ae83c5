/- slices.Sort and slices.Compact of ints at a slice of the call's own. -/
import Derived.Test.YtaeajeclbcodeaaShelfM
import Derived.Test.YtaeajeclbcodeaaInsP
import Derived.Lib.SlicesCompact
import Derived.Sort.Grow
namespace Go.Proofs.Ytaeajeclbcodeaa
open Go.Shelf Go.RowKit Go.Lib Go.Sort
set_option linter.unusedVariables false
theorem putCells_whole (Q : List Value) (l r : List Int) (hr : r.length = l.length) :
    putCells (Value.int .i64) 0 r.toArray (ints l ++ Q).toArray = (ints r ++ Q).toArray := by
  apply Array.ext_getElem?
  intro k
  simp only [putCells, Array.getElem?_mapIdx, List.getElem?_toArray, List.size_toArray]
  rcases Nat.lt_or_ge k l.length with h2 | h2
  · have e1 : (ints l ++ Q)[k]? = (ints l)[k]? := List.getElem?_append_left (by simp; omega)
    have e2 : (ints r ++ Q)[k]? = (ints r)[k]? := List.getElem?_append_left (by simp; omega)
    rw [e1, e2, ints_at h2, ints_at (show k < r.length by omega), Option.map_some, if_pos ⟨Nat.zero_le _, by omega⟩]
    simp [getElem!_pos, show k < r.length by omega]
  · rw [List.getElem?_append_right (by simp; omega), List.getElem?_append_right (by simp; omega)]
    simp only [List.length_map, hr]
    cases Q[k - l.length]? with
    | none => rfl
    | some u => rw [Option.map_some, if_neg (by omega)]
theorem holds_own {w : World} {g : Nat} {t : TypeId} {Q : List Value} {l : List Int} (h : Own w g t (ints l ++ Q)) : Holds (Value.int .i64) w g 0 l.toArray := by
  intro j hj
  simp only [List.size_toArray] at hj
  refine ⟨?_, h.frozen _⟩
  rw [h.cell, Nat.zero_add, List.getElem?_append_left (by simp; omega), ints_at hj]
  simp [getElem!_pos, hj]
theorem own_put {w : World} {g n : Nat} {t : TypeId} {Q : List Value} {l r : List Int} (h : Own w g t (ints l ++ Q)) (hr : r.length = l.length) (os : Array Obj) :
    Own (grow (putRow (Value.int .i64) (Sort.ahead w n) g 0 r.toArray) os) g t (ints r ++ Q) ∧ Only w.heap.size [g] w (grow (putRow (Value.int .i64) (Sort.ahead w n) g 0 r.toArray) os) := by
  have hg := h.lt
  have hh : (Sort.ahead w n).heap = w.heap := rfl
  refine ⟨?_, rfl, rfl, rfl, by simp [putRow, mapBlock, grow], ?_⟩
  · unfold Own at h ⊢
    rw [heap_grow_old _ _ (by simp [putRow, mapBlock]; exact hg)]
    simp only [putRow, mapBlock, Array.getElem?_modify, if_true, hh, h, Option.map_some, onCells]
    show some (Obj.cells (putCells (Value.int .i64) 0 r.toArray (ints l ++ Q).toArray) t (0, 0)) = _
    rw [putCells_whole Q l r hr]
  · intro k hk hn
    have hne : ¬ g = k := fun e => hn (by simp [e])
    rw [heap_grow_old _ _ (by simp [putRow, mapBlock]; exact hk)]
    simp only [putRow, mapBlock, Array.getElem?_modify, if_neg hne, hh]
def sortI (l : List Int) : List Int := l.mergeSort fun x y => decide (x ≤ y)
theorem sortI_len (l : List Int) : (sortI l).length = l.length := List.length_mergeSort l
theorem G_Sort {R : Option Addr} {base q : Nat} {t : TypeId} {l : List Int} (w : World) (hs : l.length ≤ 1048576) (h : Grow w base t 1 R l.length q (ints l)) :
    Calls Try.prog 38 #[.slice R l.length q] w fun e w' => e = .returned (.tuple #[]) ∧ Grow w' base t 1 R (sortI l).length q (ints (sortI l)) ∧ Only w.heap.size (gOf R) w w' := by
  rcases Nat.eq_zero_or_pos l.length with h0 | h0
  · obtain rfl : l = [] := List.eq_nil_of_length_eq_zero h0
    refine (Try.slices_Sort_int_none R q w).mono ?_
    rintro e w' ⟨rfl, rfl⟩
    exact ⟨rfl, by rw [show sortI [] = [] by simp [sortI]]; exact h, Only.refl _ _ _⟩
  · obtain ⟨g, ds, rfl, hbg, ho, hnc, hcm, hds⟩ := h.parts h0
    unfold maxLen at hcm
    refine (Try.slices_Sort_int g 0 q l w (holds_own ho) ho.lt (by omega)).mono ?_
    rintro e w' ⟨rfl, n, os, rfl⟩
    obtain ⟨p1, p2⟩ := own_put (n := n) (r := sortI l) ho (sortI_len l) os
    refine ⟨rfl, Grow.of_parts p1 (by simp) ?_ hbg (by rw [sortI_len]; exact hnc) (by unfold maxLen; omega), p2⟩
    simp only [List.length_append, List.length_map] at hds ⊢
    rw [sortI_len]; exact hds
theorem compact_len (l : List Int) : (Lib.compact l).length ≤ l.length := by
  have : ∀ (d : Array Int) m, (compactUpTo d m).length ≤ m := by
    intro d m
    induction m with
    | zero => exact Nat.le_refl _
    | succ m ih =>
      rw [Lib.compactUpTo_succ]
      split <;> simp <;> omega
  exact Nat.le_trans (this _ _) (by simp)
theorem G_Compact {R : Option Addr} {base q : Nat} {t : TypeId} {l : List Int} (w : World) (h : Grow w base t 1 R l.length q (ints l)) :
    Calls Try.prog 40 #[.slice R l.length q] w fun e w' => e = .returned (.slice R (Lib.compact l).length q) ∧ Grow w' base t 1 R (Lib.compact l).length q (ints (Lib.compact l)) ∧ Only w.heap.size (gOf R) w w' := by
  rcases Nat.eq_zero_or_pos l.length with h0 | h0
  · obtain rfl : l = [] := List.eq_nil_of_length_eq_zero h0
    refine (Try.slices_Compact_int_empty R q w).mono ?_
    rintro e w' ⟨rfl, rfl⟩
    exact ⟨rfl, h, Only.refl _ _ _⟩
  · obtain ⟨g, ds, rfl, hbg, ho, hnc, hcm, hds⟩ := h.parts h0
    unfold maxLen at hcm
    have hcl := compact_len l
    refine (Try.slices_Compact_int g 0 q l w (holds_own ho) (by omega) hnc).mono ?_
    rintro e w' ⟨rfl, n, rfl⟩
    obtain ⟨p1, p2⟩ := own_put (n := n) (r := Lib.compact l ++ List.replicate (l.length - (Lib.compact l).length) 0) ho (by simp; omega) #[]
    rw [grow_empty] at p1 p2
    rw [show ints (Lib.compact l ++ List.replicate (l.length - (Lib.compact l).length) 0) = ints (Lib.compact l) ++ ints (List.replicate (l.length - (Lib.compact l).length) 0) by simp, List.append_assoc] at p1
    refine ⟨rfl, Grow.of_parts p1 (by simp) ?_ hbg (by omega) (by unfold maxLen; omega), p2⟩
    simp only [List.length_append, List.length_map, List.length_replicate] at hds ⊢
    omega
end Go.Proofs.Ytaeajeclbcodeaa
