/- MergeAccums of the reference and of the program. -/
import Derived.Test.YtndipkclmecpoaaResolve
import Derived.Test.YtndipkclmecpoaaCopies
import Derived.StillTailTactics
namespace Go.Proofs.Ytndipkclmecpoaa
open Go.RowKit
set_option linter.unusedVariables false
set_option maxRecDepth 100000
def addL (a b : List Int) : List Int := List.zipWith (· + ·) a b
theorem addL_len {a b : List Int} (h : a.length = b.length) : (addL a b).length = a.length := by simp [addL, h]
theorem addL_at {a b : List Int} {k : Nat} (h : k < a.length) (h' : k < b.length) : (addL a b)[k]? = some (a[k] + b[k]) := by unfold addL; rw [List.getElem?_zipWith, List.getElem?_eq_getElem h, List.getElem?_eq_getElem h']
/-- Added up to element k. -/
def mixL (a b : List Int) (k : Nat) : List Int := (addL a b).take k ++ a.drop k
theorem mixL_len {a b : List Int} (h : a.length = b.length) (k : Nat) : (mixL a b k).length = a.length := by simp [mixL, addL_len h]; omega
theorem mixL_zero (a b : List Int) : mixL a b 0 = a := by simp [mixL]
theorem mixL_all {a b : List Int} (h : a.length = b.length) : mixL a b a.length = addL a b := by
  unfold mixL; rw [List.take_of_length_le (by rw [addL_len h]; exact Nat.le_refl _)]; simp
theorem mixL_at {a b : List Int} {k : Nat} (h : a.length = b.length) (hk : k < a.length) : (ints (mixL a b k))[k]? = some (.int .i64 a[k]) := by
  have hl := addL_len h
  unfold mixL
  rw [List.getElem?_map, List.getElem?_append_right (by simp; omega), List.getElem?_drop, List.length_take, show k + (k - min k (addL a b).length) = k by omega, List.getElem?_eq_getElem hk]
  rfl
theorem mixL_set {a b : List Int} {k : Nat} (h : a.length = b.length) (hk : k < a.length) : (ints (mixL a b k)).set k (.int .i64 (a[k] + b[k]'(by omega))) = ints (mixL a b (k + 1)) := by
  have hl := addL_len h
  rw [show (Value.int .i64 (a[k] + b[k]'(by omega))) = (fun n => Value.int .i64 n) (a[k] + b[k]'(by omega)) from rfl]
  show (List.map _ _).set _ _ = List.map _ _
  rw [← List.map_set]
  congr 1
  apply List.ext_getElem?
  intro j
  have e1 : (mixL a b k).length = a.length := mixL_len h k
  by_cases e : k = j
  · subst e
    rw [List.getElem?_set_self (by omega)]
    unfold mixL
    rw [List.getElem?_append_left (by simp; omega), List.getElem?_take_of_lt (by omega), addL_at hk (by omega)]
  · rw [List.getElem?_set_ne e]
    unfold mixL
    rcases Nat.lt_or_ge j k with hj | hj
    · rw [List.getElem?_append_left (by simp; omega), List.getElem?_append_left (by simp; omega), List.getElem?_take_of_lt hj, List.getElem?_take_of_lt (by omega)]
    · rw [List.getElem?_append_right (by simp; omega), List.getElem?_append_right (by simp; omega), List.getElem?_drop, List.getElem?_drop]
      congr 1
      simp
      omega
def mergeOk (W H : Int) (s t : List Int) (W' H' : Int) (s' t' : List Int) : Bool := validAcc W H s t && (validAcc W' H' s' t' && (decide (W = W') && (decide (H = H') && allIn (addL t t') 0 1000000000)))
theorem merge_ways (W H : Int) (s t : List Int) (W' H' : Int) (s' t' : List Int) : (validAcc W H s t = true ∧ validAcc W' H' s' t' = true ∧ (W != W') = false ∧ (H != H') = false ∧ Hid (mergeOk W H s t W' H' s' t' = allIn (addL t t') 0 1000000000)) ∨
    (validAcc W H s t = false ∧ Hid (mergeOk W H s t W' H' s' t' = false)) ∨ (validAcc W H s t = true ∧ validAcc W' H' s' t' = false ∧ Hid (mergeOk W H s t W' H' s' t' = false)) ∨
    (validAcc W H s t = true ∧ validAcc W' H' s' t' = true ∧ (W != W') = true ∧ Hid (mergeOk W H s t W' H' s' t' = false)) ∨ (validAcc W H s t = true ∧ validAcc W' H' s' t' = true ∧ (W != W') = false ∧ (H != H') = true ∧ Hid (mergeOk W H s t W' H' s' t' = false)) := by
  unfold Hid mergeOk
  cases h1 : validAcc W H s t <;> cases h2 : validAcc W' H' s' t' <;> by_cases h3 : W = W' <;> by_cases h4 : H = H' <;> simp [h3, h4]
/-- The sum of two valid buffers is valid where its weights are in range. -/
theorem merge_valid {W H : Int} {s t s' t' : List Int} (h : validAcc W H s t = true) (h' : validAcc W H s' t' = true) : validAcc W H (addL s s') (addL t t') = allIn (addL t t') 0 1000000000 := by
  obtain ⟨a1, a2, a3, a4, a5, _, _⟩ := validAcc_true h
  obtain ⟨b1, b2, b3, b4, b5, _, _⟩ := validAcc_true h'
  have l1 : s.length = s'.length := by omega
  have l2 : t.length = t'.length := by omega
  rw [validAcc_yes a1 ⟨by rw [addL_len l1]; exact a2, by rw [addL_len l2]; exact a3⟩]
  rw [Bool.eq_iff_iff]
  unfold allIn
  rw [List.all_eq_true, List.all_eq_true]
  constructor
  · intro hz x hx
    obtain ⟨k, hk, rfl⟩ := List.getElem_of_mem hx
    have hk1 : k < (addL s s').length := by rw [addL_len l1]; rw [addL_len l2] at hk; omega
    have := hz ((addL s s')[k], (addL t t')[k]) (by
      have : (addL s s').zip (addL t t') = (addL s s').zip (addL t t') := rfl
      have hkz : k < ((addL s s').zip (addL t t')).length := by simp; omega
      have := List.getElem_mem hkz
      rwa [List.getElem_zip] at this)
    simp only [accPair, Bool.and_eq_true] at this
    exact this.1
  · intro hz p hp
    obtain ⟨k, hk, rfl⟩ := List.getElem_of_mem hp
    have hk1 : k < (addL s s').length := by simp at hk; omega
    have hk2 : k < (addL t t').length := by simp at hk; omega
    rw [addL_len l1] at hk1
    rw [addL_len l2] at hk2
    rw [List.getElem_zip]
    have g1 := validAcc_get h (k := k) hk1 hk2
    have g2 := validAcc_get h' (k := k) (by omega) (by omega)
    have e1 : (addL s s')[k]'(by rw [addL_len l1]; exact hk1) = s[k] + s'[k] := by
      have := addL_at hk1 (show k < s'.length by omega)
      rw [List.getElem?_eq_getElem (by rw [addL_len l1]; exact hk1)] at this
      exact Option.some.inj this
    have e2 : (addL t t')[k]'(by rw [addL_len l2]; exact hk2) = t[k] + t'[k] := by
      have := addL_at hk2 (show k < t'.length by omega)
      rw [List.getElem?_eq_getElem (by rw [addL_len l2]; exact hk2)] at this
      exact Option.some.inj this
    have hm := hz ((addL t t')[k]'(by rw [addL_len l2]; exact hk2)) (List.getElem_mem _)
    rw [e2] at hm
    simp only [accPair, Bool.and_eq_true]
    rw [e1, e2]
    exact ⟨hm, inB_mk (by omega) (by omega)⟩
def MergeR (ok : Bool) (W H : Int) (l m : List Int) (w : World) : Ending → World → Prop :=
  MadeAccum (fun s0 s1 => .tuple #[vAccum (if ok then W else 0) (if ok then H else 0) s0 s1, .bool ok]) (if ok then l else []).length (ints (if ok then l else [])) (if ok then m else []).length (ints (if ok then m else [])) w
theorem MergeR.no {W H : Int} {l m : List Int} {w w' : World} (hB : Below w.heap.size w w') : MergeR false W H l m w (.returned (.tuple #[vAccum 0 0 (.slice none 0 0) (.slice none 0 0), .bool false])) w' :=
  ⟨none, 0, none, 0, rfl, OwnS.none_ _ _ _, OwnS.none_ _ _ _, fun x hx => absurd hx (by simp [gOf]), fun x hx => absurd hx (by simp [gOf]), fun x hx => absurd hx (by simp [gOf]), hB⟩
/-- A row of at least one element lies in a block. -/
theorem OwnS.block {w : World} {sz n c : Nat} {A : Option Addr} {t : TypeId} {cs : List Value} (h : OwnS w sz A n c t cs) (hn : 0 < n) : ∃ g ds, A = some ⟨g, 0, none⟩ ∧ Own w g t (cs ++ ds) ∧ n ≤ c ∧ c ≤ maxLen := by
  obtain ⟨hl, h1, h2, ⟨rfl, h0⟩ | ⟨g, ds, rfl, ho⟩⟩ := h
  · omega
  · exact ⟨g, ds, rfl, ho, h1, h2⟩
theorem OwnS.of_block {w : World} {g n c : Nat} {t : TypeId} {cs ds : List Value} (ho : Own w g t (cs ++ ds)) (hl : cs.length = n * 1) (h1 : n ≤ c) (h2 : c ≤ maxLen) : OwnS w 1 (some ⟨g, 0, none⟩) n c t cs := ⟨hl, h1, h2, .inr ⟨g, ds, rfl, ho⟩⟩
set_option maxHeartbeats 8000000 in
theorem S_MergeAccums {W H W' H' : Int} {A B A' B' : Option Addr} {c d c' d' : Nat} {s t s' t' : List Int} (w : World) (h : RS w 1 A s.length c (ints s)) (h2 : RS w 1 B t.length d (ints t)) (h3 : RS w 1 A' s'.length c' (ints s')) (h4 : RS w 1 B' t'.length d' (ints t')) :
    Calls Try.prog 64 #[vAccum W H (.slice A s.length c) (.slice B t.length d), vAccum W' H' (.slice A' s'.length c') (.slice B' t'.length d')] w (MergeR (mergeOk W H s t W' H' s' t') W H (addL s s') (addL t t') w) := by
  have n1 := h.len
  have n2 := h2.len
  have n3 := h3.len
  have n4 := h4.len
  unfold maxLen at n1 n2 n3 n4
  have H1 := Lib.hid h
  have H2 := Lib.hid h2
  have H3 := Lib.hid h3
  have H4 := Lib.hid h4
  clear h h2 h3 h4
  rcases merge_ways W H s t W' H' s' t' with ⟨q1, q2, q3, q4, q5⟩ | ⟨q1, q5⟩ | ⟨q1, q2, q5⟩ | ⟨q1, q2, q3, q5⟩ | ⟨q1, q2, q3, q4, q5⟩
  case inr.inl =>
    have HV : Hid (MergeR (mergeOk W H s t W' H' s' t') W H (addL s s') (addL t t') w = MergeR false W H (addL s s') (addL t t') w) := by show _ = _; rw [q5.out]
    go_enter Try.func64, Try.ntmps64
    go_wp2_with fail
    refine (S_IsValidAccum _ (RS.step (by repeat (first | (with_reducible exact Below.refl _ _) | (with_reducible assumption) | ((with_reducible refine Below.alloc ?_ ?_ _); rotate_left; (first | omega | (simp <;> omega))) | ((with_reducible refine Below.setCell ?_ ?_ _); rotate_left; (first | omega | (simp <;> omega))) | (with_reducible refine below_drewN ?_ _) | (with_reducible refine Below.drew ?_) | ((with_reducible refine Below.step (by assumption) ?_ ?_); rotate_left; (first | omega | (simp <;> omega))))) H1.out) (RS.step (by repeat (first | (with_reducible exact Below.refl _ _) | (with_reducible assumption) | ((with_reducible refine Below.alloc ?_ ?_ _); rotate_left; (first | omega | (simp <;> omega))) | ((with_reducible refine Below.setCell ?_ ?_ _); rotate_left; (first | omega | (simp <;> omega))) | (with_reducible refine below_drewN ?_ _) | (with_reducible refine Below.drew ?_) | ((with_reducible refine Below.step (by assumption) ?_ ?_); rotate_left; (first | omega | (simp <;> omega))))) H2.out)).mono ?_
    rintro e w' ⟨rfl, hb⟩; have hz := hb.size; (try simp at hz); have c0 := fun o => hb.cell (p := ⟨w.heap.size, o, none⟩) (by first | omega | (simp <;> omega)); have f0 := fun o => hb.frozen (p := ⟨w.heap.size, o, none⟩) (by first | omega | (simp <;> omega)); have z0 : w.heap.size < w'.heap.size := (by omega); have c1 := fun o => hb.cell (p := ⟨w.heap.size + 1, o, none⟩) (by first | omega | (simp <;> omega)); have f1 := fun o => hb.frozen (p := ⟨w.heap.size + 1, o, none⟩) (by first | omega | (simp <;> omega)); have z1 : w.heap.size + 1 < w'.heap.size := (by omega); have c2 := fun o => hb.cell (p := ⟨w.heap.size + 1 + 1, o, none⟩) (by first | omega | (simp <;> omega)); have f2 := fun o => hb.frozen (p := ⟨w.heap.size + 1 + 1, o, none⟩) (by first | omega | (simp <;> omega)); have z2 : w.heap.size + 1 + 1 < w'.heap.size := (by omega)
    go_wp2
    rw [HV.out]
    exact bodyPost_ret (v := .tuple #[vAccum 0 0 (.slice none 0 0) (.slice none 0 0), .bool false]) (by simp [results, Try.results64, go_sem, *]) rfl (MergeR.no (by repeat (first | (with_reducible exact Below.refl _ _) | (with_reducible assumption) | ((with_reducible refine Below.alloc ?_ ?_ _); rotate_left; (first | omega | (simp <;> omega))) | ((with_reducible refine Below.setCell ?_ ?_ _); rotate_left; (first | omega | (simp <;> omega))) | (with_reducible refine below_drewN ?_ _) | (with_reducible refine Below.drew ?_) | ((with_reducible refine Below.step (by assumption) ?_ ?_); rotate_left; (first | omega | (simp <;> omega))))))
  case inl =>
    have e1 : W = W' := by simpa using q3
    have e2 : H = H' := by simpa using q4
    subst e1; subst e2
    have HMV := Lib.hid (merge_valid q1 q2)
    have HG1 := Lib.hid (fun k h1 h2 => validAcc_get q1 (k := k) h1 h2)
    have HG2 := Lib.hid (fun k h1 h2 => validAcc_get q2 (k := k) h1 h2)
    obtain ⟨sz, a2, a3, a4, a5, _, _⟩ := validAcc_true q1
    obtain ⟨_, b2, b3, b4, b5, _, _⟩ := validAcc_true q2
    have hpos := (area_rng sz).1
    have L1 : Hid (s.length = s'.length) := by show s.length = s'.length; omega
    have L2 : Hid (t.length = t'.length) := by show t.length = t'.length; omega
    have L3 : Hid (s.length = t.length) := a4
    have p1 : 0 < s.length := by omega
    clear a2 a3 a4 b2 b3 b4 sz hpos
    go_enter Try.func64, Try.ntmps64
    go_wp2_with fail
    refine (S_IsValidAccum _ (RS.step (by repeat (first | (with_reducible exact Below.refl _ _) | (with_reducible assumption) | ((with_reducible refine Below.alloc ?_ ?_ _); rotate_left; (first | omega | (simp <;> omega))) | ((with_reducible refine Below.setCell ?_ ?_ _); rotate_left; (first | omega | (simp <;> omega))) | (with_reducible refine below_drewN ?_ _) | (with_reducible refine Below.drew ?_) | ((with_reducible refine Below.step (by assumption) ?_ ?_); rotate_left; (first | omega | (simp <;> omega))))) H1.out) (RS.step (by repeat (first | (with_reducible exact Below.refl _ _) | (with_reducible assumption) | ((with_reducible refine Below.alloc ?_ ?_ _); rotate_left; (first | omega | (simp <;> omega))) | ((with_reducible refine Below.setCell ?_ ?_ _); rotate_left; (first | omega | (simp <;> omega))) | (with_reducible refine below_drewN ?_ _) | (with_reducible refine Below.drew ?_) | ((with_reducible refine Below.step (by assumption) ?_ ?_); rotate_left; (first | omega | (simp <;> omega))))) H2.out)).mono ?_
    rintro e w1 ⟨rfl, hb1⟩
    have hz1 := hb1.size
    (try simp at hz1)
    obtain ⟨cc1, ff1⟩ := bcell (hb1.mono (show w.heap.size + 3 ≤ _ by first | omega | (simp <;> omega)))
    have ya1 : w.heap.size < w1.heap.size := by omega
    have yb1 : w.heap.size + 1 < w1.heap.size := by omega
    have yc1 : w.heap.size + 1 + 1 < w1.heap.size := by omega
    have hB1 : Below w.heap.size w w1 := (by repeat (first | (with_reducible exact Below.refl _ _) | (with_reducible assumption) | ((with_reducible refine Below.alloc ?_ ?_ _); rotate_left; (first | omega | (simp <;> omega))) | ((with_reducible refine Below.setCell ?_ ?_ _); rotate_left; (first | omega | (simp <;> omega))) | (with_reducible refine below_drewN ?_ _) | (with_reducible refine Below.drew ?_) | ((with_reducible refine Below.step (by assumption) ?_ ?_); rotate_left; (first | omega | (simp <;> omega)))))
    go_wp2_with fail
    refine (S_IsValidAccum _ (RS.step hB1 H3.out) (RS.step hB1 H4.out)).mono ?_
    rintro e w2 ⟨rfl, hb2⟩
    have hz2 := hb2.size
    (try simp at hz2)
    obtain ⟨cc2, ff2⟩ := bcell (hb2.mono (show w.heap.size + 3 ≤ _ by first | omega | (simp <;> omega)))
    have ya2 : w.heap.size < w2.heap.size := by omega
    have yb2 : w.heap.size + 1 < w2.heap.size := by omega
    have yc2 : w.heap.size + 1 + 1 < w2.heap.size := by omega
    have hB2 : Below w.heap.size w w2 := (by repeat (first | (with_reducible exact Below.refl _ _) | (with_reducible assumption) | ((with_reducible refine Below.alloc ?_ ?_ _); rotate_left; (first | omega | (simp <;> omega))) | ((with_reducible refine Below.setCell ?_ ?_ _); rotate_left; (first | omega | (simp <;> omega))) | (with_reducible refine below_drewN ?_ _) | (with_reducible refine Below.drew ?_) | ((with_reducible refine Below.step (by assumption) ?_ ?_); rotate_left; (first | omega | (simp <;> omega)))))
    go_wp2_with fail
    refine (S_copyAccum _ (by omega) (by have := L3.out; omega) (RS.step (by repeat (first | (with_reducible exact Below.refl _ _) | (with_reducible assumption) | ((with_reducible refine Below.alloc ?_ ?_ _); rotate_left; (first | omega | (simp <;> omega))) | ((with_reducible refine Below.setCell ?_ ?_ _); rotate_left; (first | omega | (simp <;> omega))) | (with_reducible refine below_drewN ?_ _) | (with_reducible refine Below.drew ?_) | ((with_reducible refine Below.step (by assumption) ?_ ?_); rotate_left; (first | omega | (simp <;> omega))))) H1.out) (RS.step (by repeat (first | (with_reducible exact Below.refl _ _) | (with_reducible assumption) | ((with_reducible refine Below.alloc ?_ ?_ _); rotate_left; (first | omega | (simp <;> omega))) | ((with_reducible refine Below.setCell ?_ ?_ _); rotate_left; (first | omega | (simp <;> omega))) | (with_reducible refine below_drewN ?_ _) | (with_reducible refine Below.drew ?_) | ((with_reducible refine Below.step (by assumption) ?_ ?_); rotate_left; (first | omega | (simp <;> omega))))) H2.out)).mono ?_
    rintro e w3 ⟨P1, k1, P2, k2, rfl, o1, o2, ge1, ge2, hd, hb3⟩
    have hz3 := hb3.size
    (try simp at hz3)
    obtain ⟨cc3, ff3⟩ := bcell (hb3.mono (show w.heap.size + 3 ≤ _ by first | omega | (simp <;> omega)))
    have ya3 : w.heap.size < w3.heap.size := by omega
    have yb3 : w.heap.size + 1 < w3.heap.size := by omega
    have yc3 : w.heap.size + 1 + 1 < w3.heap.size := by omega
    have hB3 : Below w.heap.size w w3 := (by repeat (first | (with_reducible exact Below.refl _ _) | (with_reducible assumption) | ((with_reducible refine Below.alloc ?_ ?_ _); rotate_left; (first | omega | (simp <;> omega))) | ((with_reducible refine Below.setCell ?_ ?_ _); rotate_left; (first | omega | (simp <;> omega))) | (with_reducible refine below_drewN ?_ _) | (with_reducible refine Below.drew ?_) | ((with_reducible refine Below.step (by assumption) ?_ ?_); rotate_left; (first | omega | (simp <;> omega)))))
    have HA3 := Lib.hid (RS.step hB3 H3.out)
    obtain ⟨g1, d1, rfl, o1, k1a, k1b⟩ := OwnS.block o1 p1
    obtain ⟨g2, d2, rfl, o2, k2a, k2b⟩ := OwnS.block o2 (by have := L3.out; omega)
    have hg1 := ge1 g1 (by simp [gOf])
    have hg2 := ge2 g2 (by simp [gOf])
    have hg12 : g1 ≠ g2 := fun e => hd g1 (by simp [gOf]) (by simp [gOf, e])
    have hl1 := o1.lt
    have hl2 := o2.lt
    clear ge1 ge2 hd
    unfold maxLen at k1b k2b
    go_wp2_with fail
    have hn4 : t'.length = s.length := by have := L2.out; have := L3.out; omega
    have HN4 := Lib.hid hn4
    clear hn4
    go_loopw [7, 8, 37] (fun _ _ i wr => ∃ k : Nat, k ≤ t'.length ∧ i = .int .i64 k ∧ Own wr g1 3 (ints (mixL s s' k) ++ d1) ∧ Own wr g2 3 (ints (mixL t t' k) ++ d2) ∧ Only (w3.heap.size + 1) [g1, g2] (w3.alloc (.cells #[.int .i64 W, .int .i64 H, .slice (some ⟨g1, 0, none⟩) s.length k1, .slice (some ⟨g2, 0, none⟩) t.length k2] 81)) wr) (fun _ _ i _ => t'.length - (intOf i).toNat)
    case atStart => exact ⟨0, Nat.zero_le _, rfl, by rw [mixL_zero]; exact o1.alloc _, by rw [mixL_zero]; exact o2.alloc _, Only.refl _ _ _⟩
    case round =>
      obtain ⟨k, hk, rfl, r1, r2, hO⟩ := hrel
      have hN := HN4.out
      have hL1 := L1.out
      have hL3 := L3.out
      have hbw : Below w.heap.size w wr := Below.trans (Below.alloc hB3 (by omega) _) (hO.below (by omega) (fun x hx => by simp at hx; omega))
      have hOz := hO.size
      (try simp at hOz)
      obtain ⟨oc0, of0⟩ := hO.cell w3.heap.size (by omega) (by simp; omega)
      obtain ⟨oc1, of1⟩ := hO.cell (w.heap.size + 1) (by omega) (by simp; omega)
      obtain ⟨oc2, of2⟩ := hO.cell (w.heap.size + 1 + 1) (by omega) (by simp; omega)
      have e02 : wr.cell? ⟨w3.heap.size, 2, none⟩ = some (.slice (some ⟨g1, 0, none⟩) s.length k1) := by rw [oc0]; simp
      have e03 : wr.cell? ⟨w3.heap.size, 3, none⟩ = some (.slice (some ⟨g2, 0, none⟩) t.length k2) := by rw [oc0]; simp
      have e00 : wr.cell? ⟨w3.heap.size, 0, none⟩ = some (.int .i64 W) := by rw [oc0]; simp
      have e01 : wr.cell? ⟨w3.heap.size, 1, none⟩ = some (.int .i64 H) := by rw [oc0]; simp
      have ha3 : (w3.alloc (.cells #[.int .i64 W, .int .i64 H, .slice (some ⟨g1, 0, none⟩) s.length k1, .slice (some ⟨g2, 0, none⟩) t.length k2] 81)).cell? ⟨w.heap.size + 1, 2, none⟩ = some (.slice A' s'.length c') := by go_simp
      have e12 : wr.cell? ⟨w.heap.size + 1, 2, none⟩ = some (.slice A' s'.length c') := (oc1 2).trans ha3
      have HR1 := Lib.hid r1
      have HR2 := Lib.hid r2
      have HO := Lib.hid hO
      have HBW := Lib.hid hbw
      clear r1 r2 hO hbw oc0 of0 oc1 of1 ha3
      by_cases hlt : k < t'.length
      · obtain ⟨b, o, rfl, hbh, hcell⟩ := (RS.step HBW.out H3.out).open_.2.2 (by omega)
        obtain ⟨b', o', rfl, hbh', hcell'⟩ := (RS.step HBW.out H4.out).open_.2.2 (by omega)
        have x1 : wr.cell? ⟨b, o + k, none⟩ = some (.int .i64 (s'[k]'(by omega))) := by rw [hcell k (by omega), ints_at (by omega)]
        have x2 : wr.cell? ⟨b', o' + k, none⟩ = some (.int .i64 t'[k]) := by rw [hcell' k (by omega), ints_at hlt]
        have x3 : wr.cell? ⟨g1, k, none⟩ = some (.int .i64 (s[k]'(by omega))) := by rw [HR1.out.cell, List.getElem?_append_left (by simp [mixL_len hL1]; omega), mixL_at hL1 (by omega)]
        have x4 : wr.cell? ⟨g2, k, none⟩ = some (.int .i64 (t[k]'(by omega))) := by rw [HR2.out.cell, List.getElem?_append_left (by simp [mixL_len L2.out]; omega), mixL_at L2.out (by omega)]
        obtain ⟨⟨u1, u2⟩, u3, u4⟩ := HG1.out k (by omega) (by omega)
        obtain ⟨⟨u5, u6⟩, u7, u8⟩ := HG2.out k (by omega) hlt
        have HS1 := Lib.hid (mixL_set hL1 (k := k) (by omega))
        have HS2 := Lib.hid (mixL_set L2.out (k := k) (by omega))
        have f1 : wr.frozen? ⟨g1, k, none⟩ = false := HR1.out.frozen _
        have f2 : wr.frozen? ⟨g2, k, none⟩ = false := HR2.out.frozen _
        have i0 : (0 : Int) ≤ k := by omega
        have i1 : (k : Int) < s.length := by omega
        have i2 : (k : Int) < t.length := by omega
        have i3 : (k : Int) < s'.length := by omega
        have i4 : (k : Int) < t'.length := by omega
        have hml1 : k < (ints (mixL s s' k)).length := by simp [mixL_len hL1]; omega
        have hml2 : k < (ints (mixL t t' k)).length := by simp [mixL_len L2.out]; omega
        have HM1 := Lib.hid hml1
        have HM2 := Lib.hid hml2
        clear hcell hcell' hml1 hml2
        generalize s[k]'(by omega) = v1 at *
        generalize s'[k]'(by omega) = v2 at *
        generalize t[k]'(by omega) = v3 at *
        generalize t'[k] = v4 at *
        have p1 : IntKind.i64.wrap (v1 + v2) = v1 + v2 := IntWalk.i64_in _ (by omega)
        have p2 : IntKind.i64.wrap (v3 + v4) = v3 + v4 := IntWalk.i64_in _ (by omega)
        have n1 : ¬ w3.heap.size = g1 := by omega
        have n2 : ¬ w.heap.size + 1 = g1 := by omega
        have n3 : ¬ g1 = w3.heap.size := by omega
        have n4 : ¬ g1 = w.heap.size + 1 := by omega
        have hb1 : Hid (k < s.length) := by show k < s.length; omega
        have hb2 : Hid (k < t.length) := by show k < t.length; omega
        clear hN hL1 hL3
        go_wp2_with fail
        go_still_tail 15, (by kernel_rfl)
        go_wp2_with fail
        generalize hwy : (wr.setCell ⟨g1, k, none⟩ (.int .i64 (v1 + v2))).drew = wy
        have r1 : Own wy g1 3 (ints (mixL s s' (k + 1)) ++ d1) := by rw [← HS1.out, ← hwy]; exact Own.drew (Own.set_left HR1.out _ HM1.out _)
        have r2 : Own wy g2 3 (ints (mixL t t' k) ++ d2) := by rw [← hwy]; exact Own.drew (Own.far HR2.out (fun e => hg12 e.symm) _)
        have hO : Only (w3.heap.size + 1) [g1, g2] (w3.alloc (.cells #[.int .i64 W, .int .i64 H, .slice (some ⟨g1, 0, none⟩) s.length k1, .slice (some ⟨g2, 0, none⟩) t.length k2] 81)) wy := by rw [← hwy]; exact Only.drew (Only.setCell (p := ⟨g1, k, none⟩) HO.out (by simp) _)
        have e03' : wy.cell? ⟨w3.heap.size, 3, none⟩ = some (.slice (some ⟨g2, 0, none⟩) t.length k2) := by rw [← hwy]; exact (World.cell?_setCell_other _ _ _ _ (by simp <;> omega)).trans e03
        have x4' : wy.cell? ⟨g2, k, none⟩ = some (.int .i64 v3) := by rw [← hwy]; exact (World.cell?_setCell_other _ _ _ _ (by simp <;> omega)).trans x4
        have f2' : wy.frozen? ⟨g2, k, none⟩ = false := r2.frozen _
        have HY1 := Lib.hid r1
        have HY2 := Lib.hid r2
        have HYO := Lib.hid hO
        clear hwy r1 r2 hO
        go_still_tail 11, (by kernel_rfl)
        go_wp2
        go_roundw
        case rel => exact ⟨k + 1, by omega, by go_num, Own.drew (Own.far HY1.out hg12 _), by rw [← HS2.out]; exact Own.drew (Own.set_left HY2.out _ HM2.out _), Only.drew (Only.setCell (p := ⟨g2, k, none⟩) HYO.out (by simp) _)⟩
        case measure => simp [intOf]; omega
      · obtain rfl : k = t'.length := by omega
        have hs1 : mixL s s' t'.length = addL s s' := by rw [hN]; exact mixL_all hL1
        have ht1 : mixL t t' t'.length = addL t t' := by rw [← L2.out]; exact mixL_all L2.out
        have m1 : OwnS wr 1 (some ⟨g1, 0, none⟩) (addL s s').length k1 3 (ints (addL s s')) := OwnS.of_block (hs1 ▸ HR1.out) (by simp) (by rw [addL_len hL1]; exact k1a) (by unfold maxLen; omega)
        have m2 : OwnS wr 1 (some ⟨g2, 0, none⟩) (addL t t').length k2 3 (ints (addL t t')) := OwnS.of_block (ht1 ▸ HR2.out) (by simp) (by rw [addL_len L2.out]; exact k2a) (by unfold maxLen; omega)
        have m1' := m1
        have m2' := m2
        rw [addL_len hL1] at m1'
        rw [addL_len L2.out] at m2'
        have M1 := Lib.hid m1'
        have M2 := Lib.hid m2'
        have R1 := Lib.hid m1.rs
        have R2 := Lib.hid m2.rs
        have E1 := Lib.hid (addL_len hL1)
        have E2 := Lib.hid (addL_len L2.out)
        clear m1 m2 m1' m2' hs1 ht1 hN hL1 hL3
        have hcon : ∀ wx, RS wx 1 (some ⟨g1, 0, none⟩) (addL s s').length k1 (ints (addL s s')) → RS wx 1 (some ⟨g2, 0, none⟩) (addL t t').length k2 (ints (addL t t')) → Calls Try.prog 104 #[vAccum W H (.slice (some ⟨g1, 0, none⟩) s.length k1) (.slice (some ⟨g2, 0, none⟩) t.length k2)] wx fun e w' => e = .returned (.bool (allIn (addL t t') 0 1000000000)) ∧ Below wx.heap.size wx w' := by
          intro wx a1 a2
          have := S_IsValidAccum (W := W) (H := H) wx a1 a2
          rw [HMV.out] at this
          rwa [E1.out, E2.out] at this
        have HC := Lib.hid hcon
        clear hcon
        go_wp2_with fail
        refine (HC.out _ (RS.step (by repeat (first | (with_reducible exact Below.refl _ _) | (with_reducible assumption) | ((with_reducible refine Below.alloc ?_ ?_ _); rotate_left; (first | omega | (simp <;> omega))) | ((with_reducible refine Below.setCell ?_ ?_ _); rotate_left; (first | omega | (simp <;> omega))) | (with_reducible refine below_drewN ?_ _) | (with_reducible refine Below.drew ?_) | ((with_reducible refine Below.step (by assumption) ?_ ?_); rotate_left; (first | omega | (simp <;> omega))))) R1.out) (RS.step (by repeat (first | (with_reducible exact Below.refl _ _) | (with_reducible assumption) | ((with_reducible refine Below.alloc ?_ ?_ _); rotate_left; (first | omega | (simp <;> omega))) | ((with_reducible refine Below.setCell ?_ ?_ _); rotate_left; (first | omega | (simp <;> omega))) | (with_reducible refine below_drewN ?_ _) | (with_reducible refine Below.drew ?_) | ((with_reducible refine Below.step (by assumption) ?_ ?_); rotate_left; (first | omega | (simp <;> omega))))) R2.out)).mono ?_
        rintro e w4 ⟨rfl, hb4⟩
        have hz4 := hb4.size
        (try simp at hz4)
        have yy : w.heap.size + 1 + 1 < w4.heap.size := by omega
        have yg : w3.heap.size < w4.heap.size := by omega
        obtain ⟨c4, f4⟩ := bcell (hb4.mono (show w3.heap.size + 1 ≤ _ by first | omega | (simp <;> omega)))
        have hBF : Below w.heap.size w w4 := Below.step hb4 HBW.out HBW.out.size
        cases hok : allIn (addL t t') 0 1000000000
        · have HV : Hid (MergeR (mergeOk W H s t W H s' t') W H (addL s s') (addL t t') w = MergeR false W H (addL s s') (addL t t') w) := by show _ = _; rw [q5.out, hok]
          go_wp2
          rw [HV.out]
          exact bodyPost_ret (v := .tuple #[vAccum 0 0 (.slice none 0 0) (.slice none 0 0), .bool false]) (by simp [results, Try.results64, go_sem, *]) rfl (MergeR.no (by repeat (first | (with_reducible exact Below.refl _ _) | (with_reducible assumption) | ((with_reducible refine Below.alloc ?_ ?_ _); rotate_left; (first | omega | (simp <;> omega))) | ((with_reducible refine Below.setCell ?_ ?_ _); rotate_left; (first | omega | (simp <;> omega))) | (with_reducible refine below_drewN ?_ _) | (with_reducible refine Below.drew ?_) | ((with_reducible refine Below.step (by assumption) ?_ ?_); rotate_left; (first | omega | (simp <;> omega))))))
        · have HV : Hid (MergeR (mergeOk W H s t W H s' t') W H (addL s s') (addL t t') w = MergeR true W H (addL s s') (addL t t') w) := by show _ = _; rw [q5.out, hok]
          have M1' := OwnS.step hb4 M1.out
          have M2' := OwnS.step hb4 M2.out
          go_wp2
          rw [HV.out]
          refine bodyPost_ret (v := .tuple #[vAccum W H (.slice (some ⟨g1, 0, none⟩) s.length k1) (.slice (some ⟨g2, 0, none⟩) t.length k2), .bool true]) (by simp [results, Try.results64, go_sem, *]) rfl ?_
          unfold MergeR
          simp only [if_true]
          rw [E1.out, E2.out]
          refine ⟨_, _, _, _, rfl, ?_, ?_, (fun x hx => by simp [gOf] at hx; omega), (fun x hx => by simp [gOf] at hx; omega), (fun x hx hy => by simp [gOf] at hx hy; omega), (by repeat (first | (with_reducible exact Below.refl _ _) | (with_reducible assumption) | ((with_reducible refine Below.alloc ?_ ?_ _); rotate_left; (first | omega | (simp <;> omega))) | ((with_reducible refine Below.setCell ?_ ?_ _); rotate_left; (first | omega | (simp <;> omega))) | (with_reducible refine below_drewN ?_ _) | (with_reducible refine Below.drew ?_) | ((with_reducible refine Below.step (by assumption) ?_ ?_); rotate_left; (first | omega | (simp <;> omega)))))⟩
          · exact OwnS.far (OwnS.far (OwnS.far (OwnS.far M1' (fun x hx => by simp [gOf] at hx; simp; omega) _) (fun x hx => by simp [gOf] at hx; simp; omega) _) (fun x hx => by simp [gOf] at hx; simp; omega) _) (fun x hx => by simp [gOf] at hx; simp; omega) _
          · exact OwnS.far (OwnS.far (OwnS.far (OwnS.far M2' (fun x hx => by simp [gOf] at hx; simp; omega) _) (fun x hx => by simp [gOf] at hx; simp; omega) _) (fun x hx => by simp [gOf] at hx; simp; omega) _) (fun x hx => by simp [gOf] at hx; simp; omega) _
  all_goals
    have HV : Hid (MergeR (mergeOk W H s t W' H' s' t') W H (addL s s') (addL t t') w = MergeR false W H (addL s s') (addL t t') w) := by show _ = _; rw [q5.out]
    go_enter Try.func64, Try.ntmps64
    go_wp2_with fail
    refine (S_IsValidAccum _ (RS.step (by repeat (first | (with_reducible exact Below.refl _ _) | (with_reducible assumption) | ((with_reducible refine Below.alloc ?_ ?_ _); rotate_left; (first | omega | (simp <;> omega))) | ((with_reducible refine Below.setCell ?_ ?_ _); rotate_left; (first | omega | (simp <;> omega))) | (with_reducible refine below_drewN ?_ _) | (with_reducible refine Below.drew ?_) | ((with_reducible refine Below.step (by assumption) ?_ ?_); rotate_left; (first | omega | (simp <;> omega))))) H1.out) (RS.step (by repeat (first | (with_reducible exact Below.refl _ _) | (with_reducible assumption) | ((with_reducible refine Below.alloc ?_ ?_ _); rotate_left; (first | omega | (simp <;> omega))) | ((with_reducible refine Below.setCell ?_ ?_ _); rotate_left; (first | omega | (simp <;> omega))) | (with_reducible refine below_drewN ?_ _) | (with_reducible refine Below.drew ?_) | ((with_reducible refine Below.step (by assumption) ?_ ?_); rotate_left; (first | omega | (simp <;> omega))))) H2.out)).mono ?_
    rintro e w1 ⟨rfl, hb1⟩
    have hz1 := hb1.size
    (try simp at hz1)
    obtain ⟨cc1, ff1⟩ := bcell (hb1.mono (show w.heap.size + 3 ≤ _ by first | omega | (simp <;> omega)))
    have ya1 : w.heap.size < w1.heap.size := by omega
    have yb1 : w.heap.size + 1 < w1.heap.size := by omega
    have yc1 : w.heap.size + 1 + 1 < w1.heap.size := by omega
    have hB1 : Below w.heap.size w w1 := (by repeat (first | (with_reducible exact Below.refl _ _) | (with_reducible assumption) | ((with_reducible refine Below.alloc ?_ ?_ _); rotate_left; (first | omega | (simp <;> omega))) | ((with_reducible refine Below.setCell ?_ ?_ _); rotate_left; (first | omega | (simp <;> omega))) | (with_reducible refine below_drewN ?_ _) | (with_reducible refine Below.drew ?_) | ((with_reducible refine Below.step (by assumption) ?_ ?_); rotate_left; (first | omega | (simp <;> omega)))))
    go_wp2_with fail
    refine (S_IsValidAccum _ (RS.step hB1 H3.out) (RS.step hB1 H4.out)).mono ?_
    rintro e w2 ⟨rfl, hb2⟩
    have hz2 := hb2.size
    (try simp at hz2)
    obtain ⟨cc2, ff2⟩ := bcell (hb2.mono (show w.heap.size + 3 ≤ _ by first | omega | (simp <;> omega)))
    have ya2 : w.heap.size < w2.heap.size := by omega
    have yb2 : w.heap.size + 1 < w2.heap.size := by omega
    have yc2 : w.heap.size + 1 + 1 < w2.heap.size := by omega
    have hB2 : Below w.heap.size w w2 := (by repeat (first | (with_reducible exact Below.refl _ _) | (with_reducible assumption) | ((with_reducible refine Below.alloc ?_ ?_ _); rotate_left; (first | omega | (simp <;> omega))) | ((with_reducible refine Below.setCell ?_ ?_ _); rotate_left; (first | omega | (simp <;> omega))) | (with_reducible refine below_drewN ?_ _) | (with_reducible refine Below.drew ?_) | ((with_reducible refine Below.step (by assumption) ?_ ?_); rotate_left; (first | omega | (simp <;> omega)))))
    go_wp2
    rw [HV.out]
    exact bodyPost_ret (v := .tuple #[vAccum 0 0 (.slice none 0 0) (.slice none 0 0), .bool false]) (by simp [results, Try.results64, go_sem, *]) rfl (MergeR.no (by repeat (first | (with_reducible exact Below.refl _ _) | (with_reducible assumption) | ((with_reducible refine Below.alloc ?_ ?_ _); rotate_left; (first | omega | (simp <;> omega))) | ((with_reducible refine Below.setCell ?_ ?_ _); rotate_left; (first | omega | (simp <;> omega))) | (with_reducible refine below_drewN ?_ _) | (with_reducible refine Below.drew ?_) | ((with_reducible refine Below.step (by assumption) ?_ ?_); rotate_left; (first | omega | (simp <;> omega))))))
end Go.Proofs.Ytndipkclmecpoaa
