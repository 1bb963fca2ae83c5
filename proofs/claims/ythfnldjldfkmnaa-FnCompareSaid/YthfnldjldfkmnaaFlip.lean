/- FlipImage of the reference and of the program. -/
import Derived.Test.YthfnldjldfkmnaaCopies
import Derived.Test.YthfnldjldfkmnaaMade
import Derived.Test.YthfnldjldfkmnaaImageV
import Derived.Test.YthfnldjldfkmnaaDigest
import Derived.Deep.RegionHeld3
import Derived.StillTailTactics
namespace Go.Proofs.Ythfnldjldfkmnaa
open Go.RowKit
set_option linter.unusedVariables false
def flipAt (l : List Int) (a k : Nat) : Int := l[k / a * a + a - 1 - k % a]?.getD 0
def mixF (l : List Int) (a k : Nat) : List Int := (List.range k).map (flipAt l a) ++ l.drop k
def flipF (W H : Int) (l : List Int) : List Int := if validImg W H l then mixF l W.toNat l.length else l
theorem mixF_len (l : List Int) (a k : Nat) (h : k ≤ l.length) : (mixF l a k).length = l.length := by simp [mixF]; omega
theorem mixF_zero (l : List Int) (a : Nat) : mixF l a 0 = l := by simp [mixF]
theorem flipF_len (W H : Int) (l : List Int) : (flipF W H l).length = l.length := by
  unfold flipF; split
  · exact mixF_len _ _ _ (Nat.le_refl _)
  · rfl
theorem mixF_set {l : List Int} {a k : Nat} (h : k < l.length) : (ints (mixF l a k)).set k (.int .i64 (flipAt l a k)) = ints (mixF l a (k + 1)) := by
  rw [show (Value.int .i64 (flipAt l a k)) = (fun n => Value.int .i64 n) (flipAt l a k) from rfl]
  show (List.map _ _).set _ _ = List.map _ _
  rw [← List.map_set]
  congr 1
  unfold mixF
  rw [List.set_append_right _ _ (by simp), List.range_succ, List.map_append, List.append_assoc]
  congr 1
  have hd : List.drop k l = l[k] :: List.drop (k + 1) l := List.drop_eq_getElem_cons h
  rw [List.length_map, List.length_range, Nat.sub_self, hd]
  rfl
theorem flip_nat {a b k n : Nat} (ha : 1 ≤ a) (hn : n = a * b) (hk : k < n) : ∃ m r : Nat, k / a * a = m ∧ k % a = r ∧ k = m + r ∧ r < a ∧ m + a ≤ n := by
  refine ⟨k / a * a, k % a, rfl, rfl, ?_, Nat.mod_lt _ ha, ?_⟩
  · have := Nat.div_add_mod k a
    rw [Nat.mul_comm] at this
    exact this.symm
  · have h1 : k / a < b := by rw [Nat.div_lt_iff_lt_mul ha, Nat.mul_comm, ← hn]; exact hk
    have h2 : (k / a + 1) * a ≤ b * a := Nat.mul_le_mul_right _ h1
    rw [Nat.succ_mul, Nat.mul_comm b a, ← hn] at h2
    exact h2
/-- One row of the flipped image: the row turned about. -/
theorem mixF_row {l : List Int} {a j : Nat} (ha : 1 ≤ a) (hj : j * a + a ≤ l.length) :
    ∃ P Q : List Int, P.length = j * a ∧ mixF l a (j * a) = P ++ (l.drop (j * a)).take a ++ Q ∧ mixF l a ((j + 1) * a) = P ++ ((l.drop (j * a)).take a).reverse ++ Q := by
  refine ⟨(List.range (j * a)).map (flipAt l a), l.drop (j * a + a), by simp, ?_, ?_⟩
  · unfold mixF
    rw [List.append_assoc]
    congr 1
    rw [← List.drop_drop, List.take_append_drop]
  · unfold mixF
    rw [Nat.succ_mul, List.range_add, List.map_append]
    congr 1
    congr 1
    have hlen : ((l.drop (j * a)).take a).length = a := by rw [List.length_take, List.length_drop]; omega
    apply List.ext_getElem?
    intro i
    rcases Nat.lt_or_ge i a with h | h
    · rw [List.getElem?_reverse (by omega), hlen, List.getElem?_take_of_lt (by omega), List.getElem?_drop]
      simp only [List.getElem?_map, List.getElem?_range h, Option.map_some]
      unfold flipAt
      have hd : (j * a + i) / a = j := by rw [Nat.mul_comm, Nat.mul_add_div ha, Nat.div_eq_of_lt h, Nat.add_zero]
      have hm : (j * a + i) % a = i := by rw [Nat.mul_comm, Nat.mul_add_mod, Nat.mod_eq_of_lt h]
      rw [hd, hm, show j * a + a - 1 - i = j * a + (a - 1 - i) by omega, List.getElem?_eq_getElem (by omega)]
      rfl
    · rw [List.getElem?_eq_none (by simp; omega), List.getElem?_eq_none (by rw [List.length_reverse]; omega)]
end Go.Proofs.Ythfnldjldfkmnaa
