/- MergeAccums of the reference and of the program. -/
import Derived.Test.YthpanpedoeghoaaResolve
import Derived.Test.YthpanpedoeghoaaCopies
import Derived.StillTailTactics
set_option linter.unusedVariables false
set_option linter.unusedSimpArgs false
set_option linter.unnecessarySimpa false
namespace Go.Proofs.Ythpanpedoeghoaa
open Go.RowKit
set_option linter.unusedVariables false
set_option maxRecDepth 100000
def addL (a b : List Int) : List Int := List.zipWith (· + ·) a b
theorem addL_len {a b : List Int} (h : a.length = b.length) : (addL a b).length = a.length := by simp [addL, h]
theorem addL_at {a b : List Int} {k : Nat} (h : k < a.length) (h' : k < b.length) : (addL a b)[k]? = some (a[k] + b[k]) := by unfold addL; rw [List.getElem?_zipWith, List.getElem?_eq_getElem h, List.getElem?_eq_getElem h']
/-- Added up to element k. -/
def mixL (a b : List Int) (k : Nat) : List Int := (addL a b).take k ++ a.drop k
theorem mixL_len {a b : List Int} (h : a.length = b.length) (k : Nat) : (mixL a b k).length = a.length := by simp [mixL, addL_len h]; omega
theorem mixL_zero (a b : List Int) : mixL a b 0 = a := by simp [mixL]
theorem mixL_all {a b : List Int} (h : a.length = b.length) : mixL a b a.length = addL a b := by
  unfold mixL; rw [List.take_of_length_le (by rw [addL_len h]; exact Nat.le_refl _)]; simp
theorem mixL_at {a b : List Int} {k : Nat} (h : a.length = b.length) (hk : k < a.length) : (ints (mixL a b k))[k]? = some (.int .i64 a[k]) := by
  have hl := addL_len h
  unfold mixL
  rw [List.getElem?_map, List.getElem?_append_right (by simp; omega), List.getElem?_drop, List.length_take, show k + (k - min k (addL a b).length) = k by omega, List.getElem?_eq_getElem hk]
  rfl
theorem mixL_set {a b : List Int} {k : Nat} (h : a.length = b.length) (hk : k < a.length) : (ints (mixL a b k)).set k (.int .i64 (a[k] + b[k]'(by omega))) = ints (mixL a b (k + 1)) := by
  have hl := addL_len h
  rw [show (Value.int .i64 (a[k] + b[k]'(by omega))) = (fun n => Value.int .i64 n) (a[k] + b[k]'(by omega)) from rfl]
  show (List.map _ _).set _ _ = List.map _ _
  rw [← List.map_set]
  congr 1
  apply List.ext_getElem?
  intro j
  have e1 : (mixL a b k).length = a.length := mixL_len h k
  by_cases e : k = j
  · subst e
    rw [List.getElem?_set_self (by omega)]
    unfold mixL
    rw [List.getElem?_append_left (by simp; omega), List.getElem?_take_of_lt (by omega), addL_at hk (by omega)]
  · rw [List.getElem?_set_ne e]
    unfold mixL
    rcases Nat.lt_or_ge j k with hj | hj
    · rw [List.getElem?_append_left (by simp; omega), List.getElem?_append_left (by simp; omega), List.getElem?_take_of_lt hj, List.getElem?_take_of_lt (by omega)]
    · rw [List.getElem?_append_right (by simp; omega), List.getElem?_append_right (by simp; omega), List.getElem?_drop, List.getElem?_drop]
      congr 1
      simp
      omega
def mergeOk (W H : Int) (s t : List Int) (W' H' : Int) (s' t' : List Int) : Bool := validAcc W H s t && (validAcc W' H' s' t' && (decide (W = W') && (decide (H = H') && allIn (addL t t') 0 1000000000)))
theorem merge_ways (W H : Int) (s t : List Int) (W' H' : Int) (s' t' : List Int) : (validAcc W H s t = true ∧ validAcc W' H' s' t' = true ∧ (W != W') = false ∧ (H != H') = false ∧ Hid (mergeOk W H s t W' H' s' t' = allIn (addL t t') 0 1000000000)) ∨
    (validAcc W H s t = false ∧ Hid (mergeOk W H s t W' H' s' t' = false)) ∨ (validAcc W H s t = true ∧ validAcc W' H' s' t' = false ∧ Hid (mergeOk W H s t W' H' s' t' = false)) ∨
    (validAcc W H s t = true ∧ validAcc W' H' s' t' = true ∧ (W != W') = true ∧ Hid (mergeOk W H s t W' H' s' t' = false)) ∨ (validAcc W H s t = true ∧ validAcc W' H' s' t' = true ∧ (W != W') = false ∧ (H != H') = true ∧ Hid (mergeOk W H s t W' H' s' t' = false)) := by
  unfold Hid mergeOk
  cases h1 : validAcc W H s t <;> cases h2 : validAcc W' H' s' t' <;> by_cases h3 : W = W' <;> by_cases h4 : H = H' <;> simp [h3, h4]
/-- The sum of two valid buffers is valid where its weights are in range. -/
theorem merge_valid {W H : Int} {s t s' t' : List Int} (h : validAcc W H s t = true) (h' : validAcc W H s' t' = true) : validAcc W H (addL s s') (addL t t') = allIn (addL t t') 0 1000000000 := by
  obtain ⟨a1, a2, a3, a4, a5, _, _⟩ := validAcc_true h
  obtain ⟨b1, b2, b3, b4, b5, _, _⟩ := validAcc_true h'
  have l1 : s.length = s'.length := by omega
  have l2 : t.length = t'.length := by omega
  rw [validAcc_yes a1 ⟨by rw [addL_len l1]; exact a2, by rw [addL_len l2]; exact a3⟩]
  rw [Bool.eq_iff_iff]
  unfold allIn
  rw [List.all_eq_true, List.all_eq_true]
  constructor
  · intro hz x hx
    obtain ⟨k, hk, rfl⟩ := List.getElem_of_mem hx
    have hk1 : k < (addL s s').length := by rw [addL_len l1]; rw [addL_len l2] at hk; omega
    have := hz ((addL s s')[k], (addL t t')[k]) (by
      have : (addL s s').zip (addL t t') = (addL s s').zip (addL t t') := rfl
      have hkz : k < ((addL s s').zip (addL t t')).length := by simp; omega
      have := List.getElem_mem hkz
      rwa [List.getElem_zip] at this)
    simp only [accPair, Bool.and_eq_true] at this
    exact this.1
  · intro hz p hp
    obtain ⟨k, hk, rfl⟩ := List.getElem_of_mem hp
    have hk1 : k < (addL s s').length := by simp at hk; omega
    have hk2 : k < (addL t t').length := by simp at hk; omega
    rw [addL_len l1] at hk1
    rw [addL_len l2] at hk2
    rw [List.getElem_zip]
    have g1 := validAcc_get h (k := k) hk1 hk2
    have g2 := validAcc_get h' (k := k) (by omega) (by omega)
    have e1 : (addL s s')[k]'(by rw [addL_len l1]; exact hk1) = s[k] + s'[k] := by
      have := addL_at hk1 (show k < s'.length by omega)
      rw [List.getElem?_eq_getElem (by rw [addL_len l1]; exact hk1)] at this
      exact Option.some.inj this
    have e2 : (addL t t')[k]'(by rw [addL_len l2]; exact hk2) = t[k] + t'[k] := by
      have := addL_at hk2 (show k < t'.length by omega)
      rw [List.getElem?_eq_getElem (by rw [addL_len l2]; exact hk2)] at this
      exact Option.some.inj this
    have hm := hz ((addL t t')[k]'(by rw [addL_len l2]; exact hk2)) (List.getElem_mem _)
    rw [e2] at hm
    simp only [accPair, Bool.and_eq_true]
    rw [e1, e2]
    exact ⟨hm, inB_mk (by omega) (by omega)⟩
def MergeR (ok : Bool) (W H : Int) (l m : List Int) (w : World) : Ending → World → Prop :=
  MadeAccum (fun s0 s1 => .tuple #[vAccum (if ok then W else 0) (if ok then H else 0) s0 s1, .bool ok]) (if ok then l else []).length (ints (if ok then l else [])) (if ok then m else []).length (ints (if ok then m else [])) w
theorem MergeR.no {W H : Int} {l m : List Int} {w w' : World} (hB : Below w.heap.size w w') : MergeR false W H l m w (.returned (.tuple #[vAccum 0 0 (.slice none 0 0) (.slice none 0 0), .bool false])) w' :=
  ⟨none, 0, none, 0, rfl, OwnS.none_ _ _ _, OwnS.none_ _ _ _, fun x hx => absurd hx (by simp [gOf]), fun x hx => absurd hx (by simp [gOf]), fun x hx => absurd hx (by simp [gOf]), hB⟩
/-- A row of at least one element lies in a block. -/
theorem OwnS.block {w : World} {sz n c : Nat} {A : Option Addr} {t : TypeId} {cs : List Value} (h : OwnS w sz A n c t cs) (hn : 0 < n) : ∃ g ds, A = some ⟨g, 0, none⟩ ∧ Own w g t (cs ++ ds) ∧ n ≤ c ∧ c ≤ maxLen := by
  obtain ⟨hl, h1, h2, ⟨rfl, h0⟩ | ⟨g, ds, rfl, ho⟩⟩ := h
  · omega
  · exact ⟨g, ds, rfl, ho, h1, h2⟩
theorem OwnS.of_block {w : World} {g n c : Nat} {t : TypeId} {cs ds : List Value} (ho : Own w g t (cs ++ ds)) (hl : cs.length = n * 1) (h1 : n ≤ c) (h2 : c ≤ maxLen) : OwnS w 1 (some ⟨g, 0, none⟩) n c t cs := ⟨hl, h1, h2, .inr ⟨g, ds, rfl, ho⟩⟩
end Go.Proofs.Ythpanpedoeghoaa
