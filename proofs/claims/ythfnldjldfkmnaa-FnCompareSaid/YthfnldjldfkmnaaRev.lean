/- slices.Reverse of ints, in place. (The walk follows the kit's own of slices.Reverse.) -/
import Derived.Test.YthfnldjldfkmnaaMark
import Derived.Shelf.Lays
import Derived.Shelf.RegionOpenPlain
import Derived.WalkKit
import Derived.Deep.LoopGhost
import Derived.Lib.Walk
import Derived.Sort.WalkB12
import Derived.Lib.SlicesMore
namespace Go.Proofs.Ythfnldjldfkmnaa
open Go.Shelf Go.RowKit Go.Lib Go.Sort
set_option linter.unusedVariables false
set_option maxHeartbeats 1600000 in
set_option maxRecDepth 100000 in
theorem G_ReverseArr (blk off cap : Nat) (d : Array Int) (w : World) (hH : Holds encI w blk off d) (hsz : d.size ≤ 9223372036854775807) :
    Calls Try.prog 93 #[.slice (some ⟨blk, off, none⟩) d.size cap] w fun e w' => e = .returned (.tuple #[]) ∧ ∃ n, w' = putRow encI (Sort.ahead w n) blk off d.reverse := by
  have mixed : Try.prog.follows .mixedOrders = true := by kernel_rfl
  go_enter Try.func93, Try.ntmps93
  go_wp2
  go_loopg [2, 3] d.size (fun k s2 s3 wr => ∃ (i jn : Nat) (jz : Int) (dk : Array Int) (n : Nat), s2 = .int .i64 i ∧ s3 = .int .i64 jz ∧ ((i : Int) < jz → jz = jn ∧ jn < d.size) ∧ (¬ (i : Int) < jz → ¬ i < jn) ∧ jn - i ≤ k ∧
    dk.size = d.size ∧ wr = putRow encI (Sort.ahead w n) blk off dk ∧ reverseLoop i jn dk = reverseLoop 0 (d.size - 1) d)
  case atStart => exact ⟨0, d.size - 1, (d.size : Int) - 1, d, 0, rfl, rfl, fun h => ⟨by omega, by omega⟩, fun h => by omega, by omega, rfl, (putRow_self encI w blk off d hH).symm, rfl⟩
  case round =>
    obtain ⟨i, jn, jz, dk, n, rfl, rfl, h1, h2, hk, hds, hwr, heq⟩ := hrel
    by_cases hlt : (i : Int) < jz
    · obtain ⟨rfl, hjn⟩ := h1 hlt
      have hij : i < jn := by omega
      have hid : i < d.size := by omega
      have hHk : Holds encI wr blk off dk := by rw [hwr]; exact holds_putRow encI _ blk off d dk (holds_ahead encI w n blk off d hH) hds
      obtain ⟨ci, fi⟩ := hHk i (by omega)
      obtain ⟨cj, fj⟩ := hHk jn (by omega)
      have A : Aside (wr = putRow encI (Sort.ahead w n) blk off dk) := hwr
      clear hwr hHk hH h1 h2
      go_wp2_with fail
      go_region_o
      go_wp2
      go_roundg (jn - 1 - (i + 1))
      case measure => omega
      case rel =>
        rw [reverseLoop, if_pos hij] at heq
        exact ⟨i + 1, jn - 1, (jn : Int) - 1, swp dk i jn, n + 1, by simp, rfl, fun h => ⟨by omega, by omega⟩, fun h => by omega, Nat.le_refl _, by rw [size_swp]; exact hds,
          swap_world encI (by omega) (by omega) A.out (by first | rfl | simp [encI, getElem!_pos, show jn < dk.size by omega]) (by first | rfl | simp [encI, getElem!_pos, show i < dk.size by omega]), heq⟩
    · have hnot := h2 hlt
      go_wp2
      go_end0
      refine ⟨rfl, n, ?_⟩
      rw [reverseLoop, if_neg hnot] at heq
      rw [← Lib.reverseLoop_reverse, ← heq]
theorem putCells_part (P Q : List Value) (l r : List Int) (hr : r.length = l.length) :
    putCells encI P.length r.toArray (P ++ ints l ++ Q).toArray = (P ++ ints r ++ Q).toArray := by
  apply Array.ext_getElem?
  intro k
  simp only [putCells, Array.getElem?_mapIdx, List.getElem?_toArray, List.size_toArray]
  rcases Nat.lt_or_ge k P.length with h1 | h1
  · rw [List.append_assoc, List.append_assoc, List.getElem?_append_left h1, List.getElem?_append_left h1, List.getElem?_eq_getElem h1, Option.map_some, if_neg (by omega)]
  · rcases Nat.lt_or_ge k (P.length + l.length) with h2 | h2
    · have e1 : (P ++ ints l ++ Q)[k]? = (P ++ ints l)[k]? := List.getElem?_append_left (by simp; omega)
      have e2 : (P ++ ints r ++ Q)[k]? = (P ++ ints r)[k]? := List.getElem?_append_left (by simp; omega)
      rw [e1, e2, List.getElem?_append_right h1, List.getElem?_append_right h1, ints_at (show k - P.length < l.length by omega), ints_at (show k - P.length < r.length by omega), Option.map_some, if_pos ⟨h1, by omega⟩]
      simp [encI, getElem!_pos, show k - P.length < r.length by omega]
    · rw [List.getElem?_append_right (by simp; omega), List.getElem?_append_right (by simp; omega)]
      simp only [List.length_append, List.length_map, hr]
      cases Q[k - (P.length + l.length)]? with
      | none => rfl
      | some u => rw [Option.map_some, if_neg (by omega)]
set_option maxHeartbeats 1600000 in
theorem G_Reverse {g c : Nat} {P Q : List Value} {l : List Int} {t : TypeId} (w : World) (hs : l.length ≤ 1048576) (h : Own w g t (P ++ ints l ++ Q)) :
    Calls Try.prog 93 #[.slice (some ⟨g, P.length, none⟩) l.length c] w fun e w' => e = .returned (.tuple #[]) ∧ Own w' g t (P ++ ints l.reverse ++ Q) ∧ Only w.heap.size [g] w w' := by
  have hH : Holds encI w g P.length l.toArray := by
    intro j hj
    simp only [List.size_toArray] at hj
    refine ⟨?_, h.frozen _⟩
    rw [h.cell, List.getElem?_append_left (by simp; omega), List.getElem?_append_right (by omega), Nat.add_sub_cancel_left, ints_at hj]
    simp [encI, getElem!_pos, hj]
  have := G_ReverseArr g P.length c l.toArray w hH (by simp; omega)
  simp only [List.size_toArray] at this
  refine this.mono ?_
  rintro e w' ⟨rfl, n, rfl⟩
  refine ⟨rfl, ?_, rfl, rfl, rfl, by simp [putRow, mapBlock], ?_⟩
  · unfold Own at h ⊢
    have hp := putCells_part P Q l l.reverse (by simp)
    have hh : (Sort.ahead w n).heap = w.heap := rfl
    simp only [putRow, mapBlock, Array.getElem?_modify, if_true, hh, h, Option.map_some, onCells]
    rw [List.reverse_toArray]
    show some (Obj.cells (putCells encI P.length l.reverse.toArray (P ++ ints l ++ Q).toArray) t (0, 0)) = _
    rw [hp]
  · intro k hk hn
    have hne : ¬ g = k := fun e => hn (by simp [e])
    have hh : (Sort.ahead w n).heap = w.heap := rfl
    simp only [putRow, mapBlock, Array.getElem?_modify, if_neg hne, hh]
end Go.Proofs.Ythfnldjldfkmnaa
