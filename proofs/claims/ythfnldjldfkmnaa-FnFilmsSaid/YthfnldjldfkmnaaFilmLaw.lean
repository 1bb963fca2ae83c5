/- Films: what is stored keeps them valid; merging with an empty film and with itself. No program in sight. -/
import Derived.Test.YthfnldjldfkmnaaPutP
import Derived.Test.YthfnldjldfkmnaaSameTwo
namespace Go.Proofs.Ythfnldjldfkmnaa
open Go.RowKit
set_option linter.unusedVariables false
def filmAll (s : List Int) (t : List Bool) : Prop := ∀ i (h1 : i < s.length) (h2 : i < t.length), filmPair (s[i], t[i]) = true
theorem filmAll_iff {s : List Int} {t : List Bool} (hl : s.length = t.length) : (s.zip t).all filmPair = true ↔ filmAll s t := by
  rw [List.all_eq_true]
  constructor
  · intro h i h1 h2
    have := h (s[i], t[i]) (by
      have e : (s.zip t)[i]'(by rw [List.length_zip]; omega) = (s[i], t[i]) := by rw [List.getElem_zip]
      rw [← e]; exact List.getElem_mem _)
    exact this
  · intro h p hp
    obtain ⟨i, hi, rfl⟩ := List.getElem_of_mem hp
    rw [List.length_zip] at hi
    rw [List.getElem_zip]
    exact h i (by omega) (by omega)
theorem filmAll_set {s : List Int} {t : List Bool} {i : Nat} {v : Int} (h : filmAll s t) (hv : inB v 0 256 = true) : filmAll (s.set i v) (t.set i true) := by
  intro j h1 h2
  rw [List.length_set] at h1 h2
  rw [List.getElem_set, List.getElem_set]
  split
  · unfold filmPair; simp [hv]
  · exact h j h1 h2
theorem filmAll_to {at_ : Nat → Nat} {v : Nat → Int} {s : List Int} {t : List Bool} (h : filmAll s t) : ∀ k, (∀ j, j < k → inB (v j) 0 256 = true) → filmAll (pixTo at_ always v s k) (donTo at_ always t k)
  | 0, _ => h
  | k + 1, hv => by
    simp only [pixTo, donTo, if_true]
    exact filmAll_set (filmAll_to h k (fun j hj => hv j (by omega))) (hv k (by omega))
theorem validFilm_all {W H : Int} {s : List Int} {t : List Bool} (h : validFilm W H s t = true) : filmAll s t := by
  have hl := (validFilm_true h).2.2.2.2.2.2.2.2
  unfold validFilm at h
  simp only [Bool.and_eq_true] at h
  exact (filmAll_iff hl).1 h.2.2.2
theorem validFilm_of {W H : Int} {s s' : List Int} {t t' : List Bool} (h : validFilm W H s t = true) (hs : s'.length = s.length) (ht : t'.length = t.length) (h' : filmAll s' t') : validFilm W H s' t' = true := by
  have hl := (validFilm_true h).2.2.2.2.2.2.2.2
  unfold validFilm at *
  rw [hs, ht]
  simp only [Bool.and_eq_true] at *
  exact ⟨h.1, h.2.1, h.2.2.1, (filmAll_iff (by omega)).2 h'⟩
theorem validFilm_put {W H : Int} {s : List Int} {t : List Bool} {x y p q : Int} {l : List Int} (h : validFilm W H s t = true) : validFilm W H (putS W H s t x y p q l) (putT W H s t x y p q l) = true := by
  refine validFilm_of h (putS_len _ _ _ _ _ _ _ _ _) (putT_len _ _ _ _ _ _ _ _ _) ?_
  unfold putS putT
  by_cases ho : putOk W H s t x y p q l = true
  · rw [if_pos ho, if_pos ho]
    unfold putOk at ho
    simp only [Bool.and_eq_true] at ho
    refine filmAll_to (validFilm_all h) _ (fun j hj => ?_)
    have hi := ho.2.2.2.1
    unfold allIn at hi
    rw [List.all_eq_true] at hi
    have := hi l[j] (List.getElem_mem hj)
    rw [atI, getD_at hj]
    exact this
  · rw [if_neg ho, if_neg ho]
    exact validFilm_all h
abbrev zerosN (n : Nat) : List Int := List.replicate n 0
abbrev falsesN (n : Nat) : List Bool := List.replicate n false
theorem zeros_len (n : Nat) : (zerosN n).length = n := by simp
theorem falses_len (n : Nat) : (falsesN n).length = n := by simp
theorem validFilm_zero {a b n : Nat} (ha : 1 ≤ a ∧ a ≤ 12) (hb : 1 ≤ b ∧ b ≤ 12) (hn : a * b = n) : validFilm a b (zerosN n) (falsesN n) = true := by
  unfold validFilm sizeB
  rw [inB_mk (by omega) (by omega), inB_mk (by omega) (by omega)]
  simp only [Bool.true_and, Bool.and_eq_true, decide_eq_true_eq, List.length_replicate]
  refine ⟨by rw [← hn]; simp, by rw [← hn]; simp, (filmAll_iff (by simp)).2 ?_⟩
  intro i h1 h2
  simp [filmPair, inB]
theorem onB_falses (n k : Nat) : onB (falsesN n) k = false := by
  unfold onB
  rw [List.getElem?_replicate]
  split <;> rfl
theorem atI_zeros (n k : Nat) : atI (zerosN n) k = 0 := by
  unfold atI
  rw [List.getElem?_replicate]
  split <;> rfl
section
variable {on : Nat → Bool} {v : Nat → Int}
theorem pixSelf_at {s : List Int} : ∀ k i (h : i < s.length) (h' : i < (pixTo selfN on v s k).length), (pixTo selfN on v s k)[i] = if i < k ∧ on i = true then v i else s[i]
  | 0, i, h, h' => by rw [if_neg (by omega)]; rfl
  | k + 1, i, h, h' => by
    have hl : (pixTo selfN on v s k).length = s.length := pixTo_len s k
    have ih := pixSelf_at k i h (by rw [hl]; exact h)
    by_cases hk : on k = true
    · have e : pixTo selfN on v s (k + 1) = (pixTo selfN on v s k).set k (v k) := (pixTo_on hk).symm
      simp only [e, List.getElem_set]
      by_cases e2 : k = i
      · subst e2; rw [if_pos rfl, if_pos ⟨by omega, hk⟩]
      · rw [if_neg e2, ih]
        by_cases h3 : i < k ∧ on i = true
        · rw [if_pos h3, if_pos ⟨by omega, h3.2⟩]
        · rw [if_neg h3, if_neg (fun h4 => h3 ⟨by omega, h4.2⟩)]
    · have hk' : on k = false := by simpa using hk
      have e : pixTo selfN on v s (k + 1) = pixTo selfN on v s k := pixTo_off hk'
      simp only [e]
      rw [ih]
      by_cases h3 : i < k ∧ on i = true
      · rw [if_pos h3, if_pos ⟨by omega, h3.2⟩]
      · rw [if_neg h3, if_neg (fun h4 => h3 ⟨by have : i ≠ k := fun e => hk (e ▸ h4.2); omega, h4.2⟩)]
theorem donSelf_at {t : List Bool} : ∀ k i (h : i < t.length) (h' : i < (donTo selfN on t k).length), (donTo selfN on t k)[i] = if i < k ∧ on i = true then true else t[i]
  | 0, i, h, h' => by rw [if_neg (by omega)]; rfl
  | k + 1, i, h, h' => by
    have hl : (donTo selfN on t k).length = t.length := donTo_len t k
    have ih := donSelf_at k i h (by rw [hl]; exact h)
    by_cases hk : on k = true
    · have e : donTo selfN on t (k + 1) = (donTo selfN on t k).set k true := (donTo_on hk).symm
      simp only [e, List.getElem_set]
      by_cases e2 : k = i
      · subst e2; rw [if_pos rfl, if_pos ⟨by omega, hk⟩]
      · rw [if_neg e2, ih]
        by_cases h3 : i < k ∧ on i = true
        · rw [if_pos h3, if_pos ⟨by omega, h3.2⟩]
        · rw [if_neg h3, if_neg (fun h4 => h3 ⟨by omega, h4.2⟩)]
    · have hk' : on k = false := by simpa using hk
      have e : donTo selfN on t (k + 1) = donTo selfN on t k := donTo_off hk'
      simp only [e]
      rw [ih]
      by_cases h3 : i < k ∧ on i = true
      · rw [if_pos h3, if_pos ⟨by omega, h3.2⟩]
      · rw [if_neg h3, if_neg (fun h4 => h3 ⟨by have : i ≠ k := fun e => hk (e ▸ h4.2); omega, h4.2⟩)]
end
theorem okTo_all {at_ : Nat → Nat} {on : Nat → Bool} {v : Nat → Int} {s : List Int} {t : List Bool} {n : Nat} (h : ∀ i, i < n → okAt at_ on v s t i = true) : okTo at_ on v s t n = true := by
  unfold okTo
  rw [List.all_eq_true]
  intro i hi
  exact h i (by simpa using hi)
theorem onB_at {t : List Bool} {i : Nat} (h : i < t.length) : onB t i = t[i] := by unfold onB; rw [getD_at h]
/-- Merging with an empty film. -/
theorem merge_empty {a b n : Nat} {s : List Int} {t : List Bool} (ha : 1 ≤ a ∧ a ≤ 12) (hb : 1 ≤ b ∧ b ≤ 12) (hn : a * b = n) (hs : s.length = n) (ht : t.length = n) (hv : validFilm a b s t = true) :
    mergeFOk a b s t a b (zerosN n) (falsesN n) = true ∧ pixM s (zerosN n) (falsesN n) = s ∧ donM t (falsesN n) = t := by
  refine ⟨?_, ?_, ?_⟩
  · unfold mergeFOk
    rw [hv, validFilm_zero ha hb hn]
    simp only [decide_true, Bool.true_and]
    exact okTo_all (fun i _ => okAt_off (onB_falses n i))
  · unfold pixM
    apply List.ext_getElem
    · exact pixTo_len _ _
    · intro i h1 h2
      rw [pixSelf_at _ i h2 h1, if_neg (by rw [onB_falses]; simp)]
  · unfold donM
    apply List.ext_getElem
    · exact donTo_len _ _
    · intro i h1 h2
      rw [donSelf_at _ i h2 h1, if_neg (by rw [onB_falses]; simp)]
theorem empty_merge {a b n : Nat} {s : List Int} {t : List Bool} (ha : 1 ≤ a ∧ a ≤ 12) (hb : 1 ≤ b ∧ b ≤ 12) (hn : a * b = n) (hs : s.length = n) (ht : t.length = n) (hv : validFilm a b s t = true) :
    mergeFOk a b (zerosN n) (falsesN n) a b s t = true ∧ pixM (zerosN n) s t = s ∧ donM (falsesN n) t = t := by
  have hall := validFilm_all hv
  refine ⟨?_, ?_, ?_⟩
  · unfold mergeFOk
    rw [hv, validFilm_zero ha hb hn]
    simp only [decide_true, Bool.true_and]
    refine okTo_all (fun i _ => ?_)
    unfold okAt
    rw [show (falsesN n)[selfN i]?.getD false = false from onB_falses n i]
    simp
  · unfold pixM
    apply List.ext_getElem
    · rw [pixTo_len, zeros_len, hs]
    · intro i h1 h2
      rw [pixSelf_at _ i (by rw [zeros_len]; omega) h1, onB_at (show i < t.length by omega)]
      split
      · unfold atI; rw [getD_at h2]
      · next hc =>
        have hf : t[i]'(by omega) = false := by
          cases ht' : t[i]'(by omega)
          · rfl
          · exact absurd ⟨by omega, ht'⟩ hc
        have := hall i h2 (by omega)
        unfold filmPair at this
        rw [hf] at this
        simp at this
        simp [this.2]
  · unfold donM
    apply List.ext_getElem
    · rw [donTo_len, falses_len, ht]
    · intro i h1 h2
      rw [donSelf_at _ i (by rw [falses_len]; omega) h1, onB_at h2]
      split
      · next hc => exact hc.2.symm
      · next hc =>
        have hf : t[i] = false := by
          cases ht' : t[i]
          · rfl
          · exact absurd ⟨h2, ht'⟩ hc
        simp [hf]
theorem self_merge {a b : Nat} {s : List Int} {t : List Bool} (hv : validFilm a b s t = true) :
    mergeFOk a b s t a b s t = true ∧ pixM s s t = s ∧ donM t t = t := by
  have hl := (validFilm_true hv).2.2.2.2.2.2.2.2
  refine ⟨?_, ?_, ?_⟩
  · unfold mergeFOk
    rw [hv]
    simp only [decide_true, Bool.true_and]
    refine okTo_all (fun i hi => ?_)
    exact okAt_is (at_ := selfN) (by show i < _; omega) hi (fun _ => by unfold atI; rw [getD_at (show i < s.length by omega)])
  · unfold pixM
    apply List.ext_getElem
    · exact pixTo_len _ _
    · intro i h1 h2
      rw [pixSelf_at _ i h2 h1]
      split
      · unfold atI; rw [getD_at h2]
      · rfl
  · unfold donM
    apply List.ext_getElem
    · exact donTo_len _ _
    · intro i h1 h2
      rw [donSelf_at _ i h2 h1]
      split
      · next hc => rw [onB_at h2] at hc; exact hc.2.symm
      · rfl
/-- One value, stored twice. -/
theorem put_one {a b n : Nat} {s : List Int} {t : List Bool} (ha : 1 ≤ a ∧ a ≤ 12) (hb : 1 ≤ b ∧ b ≤ 12) (hn : a * b = n) (hs : s.length = n) (ht : t.length = n) (hv : validFilm a b s t = true) (h0 : ∀ h : 0 < t.length, t[0] = true → s[0]'(by omega) = 9) :
    putOk a b s t 0 0 1 1 [9] = true ∧ putS a b s t 0 0 1 1 [9] = s.set 0 9 ∧ putT a b s t 0 0 1 1 [9] = t.set 0 true := by
  have hab : 1 ≤ a * b := Nat.mul_pos (by omega) (by omega)
  have hi : insideF 0 0 1 1 a b = true := by
    unfold insideF
    rw [inB_mk (by omega) (by omega), inB_mk (by omega) (by omega), inB_mk (by omega) (by omega), inB_mk (by omega) (by omega)]; rfl
  have ho : putOk a b s t 0 0 1 1 [9] = true := by
    unfold putOk
    rw [hv, hi]
    simp only [Bool.true_and]
    rw [show decide ((([9] : List Int).length : Int) = 1 * 1) = true from rfl, show allIn [9] 0 256 = true from rfl]
    simp only [Bool.true_and]
    refine okTo_all (fun i hi => ?_)
    obtain rfl : i = 0 := by simpa using hi
    refine okAt_is (at_ := bAt (a : Int).toNat (0 : Int).toNat (0 : Int).toNat (1 : Int).toNat) ?_ ?_ (fun h => ?_)
    · simp [bAt]; omega
    · simp [bAt]; omega
    · have e : bAt (a : Int).toNat (0 : Int).toNat (0 : Int).toNat (1 : Int).toNat 0 = 0 := by simp [bAt]
      simp only [e] at h ⊢
      exact h0 (by omega) h
  have e : bAt (a : Int).toNat (0 : Int).toNat (0 : Int).toNat (1 : Int).toNat 0 = 0 := by simp [bAt]
  refine ⟨ho, ?_, ?_⟩
  · unfold putS
    rw [if_pos ho]
    simp only [List.length_singleton, pixTo, if_true, e]
    rfl
  · unfold putT
    rw [if_pos ho]
    simp only [List.length_singleton, donTo, if_true, e]
end Go.Proofs.Ythfnldjldfkmnaa
