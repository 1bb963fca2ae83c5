/- Buffers to which a few samples were added. No program in sight. -/
import Derived.Test.YthfnldjldfkmnaaAddP
import Derived.Test.YthfnldjldfkmnaaSameTwo
namespace Go.Proofs.Ythfnldjldfkmnaa
open Go.RowKit
set_option linter.unusedVariables false
/-- All weights are at most B, and the sums fit them. -/
def smallA (B : Int) (s t : List Int) : Prop := ∀ n (h1 : n < s.length) (h2 : n < t.length), (0 ≤ t[n] ∧ t[n] ≤ B) ∧ 0 ≤ s[n] ∧ s[n] ≤ 256 * t[n]
theorem smallA.mono {B C : Int} {s t : List Int} (h : smallA B s t) (hBC : B ≤ C) : smallA C s t := fun n h1 h2 => by
  have := h n h1 h2; omega
theorem valid_small {a b : Nat} {s t : List Int} (ha : 1 ≤ a ∧ a ≤ 12) (hb : 1 ≤ b ∧ b ≤ 12) (hs : s.length = a * b) (ht : t.length = a * b) (h : smallA 1000000000 s t) : validAcc a b s t = true := by
  unfold validAcc sizeB
  rw [inB_mk (by omega) (by omega), inB_mk (by omega) (by omega), hs, ht]
  simp only [Int.natCast_mul, decide_true, Bool.true_and, Bool.and_self]
  rw [List.all_eq_true]
  intro p hp
  obtain ⟨n, hn, rfl⟩ := List.getElem_of_mem hp
  rw [List.length_zip] at hn
  rw [List.getElem_zip]
  obtain ⟨⟨h1, h2⟩, h3, h4⟩ := h n (by omega) (by omega)
  simp only [accPair]
  rw [inB_mk h1 h2, inB_mk h3 h4]; rfl
theorem pixTo_all {v : Nat → Int} {s : List Int} : ∀ k, k ≤ s.length → ∀ n, n < k → (pixTo selfN alwaysOn v s k)[n]? = some (v n)
  | 0, _, n, h => absurd h (by omega)
  | k + 1, hk, n, h => by
    have hl : (pixTo selfN alwaysOn v s k).length = s.length := pixTo_len s k
    simp only [pixTo, if_true]
    by_cases e : n = k
    · subst e
      rw [List.getElem?_set_self (by show n < _; rw [hl]; omega)]
    · rw [List.getElem?_set_ne (by show k ≠ n; omega)]
      exact pixTo_all k (by omega) n (by omega)
theorem sums_at (g : Nat → Int) (color : Int) {s : List Int} {n : Nat} (h : n < s.length) (h' : n < (sumsTo g color s s.length).length) : (sumsTo g color s s.length)[n] = s[n] + g n * color := by
  have := pixTo_all (v := adS g color s) (s := s) s.length (Nat.le_refl _) n h
  rw [List.getElem?_eq_getElem h'] at this
  rw [Option.some.inj this, adS, atI, getD_at h]
theorem wts_at (g : Nat → Int) {t : List Int} {n : Nat} (h : n < t.length) (h' : n < (wtsTo g t t.length).length) : (wtsTo g t t.length)[n] = t[n] + g n := by
  have := pixTo_all (v := adT g t) (s := t) t.length (Nat.le_refl _) n h
  rw [List.getElem?_eq_getElem h'] at this
  rw [Option.some.inj this, adT, atI, getD_at h]
theorem sums_len (g : Nat → Int) (color : Int) (s : List Int) (n : Nat) : (sumsTo g color s n).length = s.length := pixTo_len _ _
theorem wts_len (g : Nat → Int) (t : List Int) (n : Nat) : (wtsTo g t n).length = t.length := pixTo_len _ _
theorem small_add {B : Int} {a : Nat} {k r x y color : Int} {s t : List Int} (h : smallA B s t) (hc : 0 ≤ color ∧ color ≤ 256) : smallA (B + 6400) (sumsTo (wgt a k r x y) color s s.length) (wtsTo (wgt a k r x y) t t.length) := by
  intro n h1 h2
  have e1 : n < s.length := by rw [sums_len] at h1; exact h1
  have e2 : n < t.length := by rw [wts_len] at h2; exact h2
  rw [sums_at _ _ e1, wts_at _ e2]
  obtain ⟨⟨p1, p2⟩, p3, p4⟩ := h n e1 e2
  obtain ⟨w1, w2⟩ := wgt_rng a k r x y n
  have m1 := Int.mul_nonneg w1 hc.1
  have m2 : wgt a k r x y n * color ≤ wgt a k r x y n * 256 := Int.mul_le_mul_of_nonneg_left hc.2 w1
  omega
theorem below_small {B : Int} {a : Nat} {k r x y : Int} {s t : List Int} (h : smallA B s t) (hl : s.length = t.length) (hB : B + 6400 ≤ 1000000000) : belowTo (wgt a k r x y) t t.length = true := by
  unfold belowTo
  rw [List.all_eq_true]
  intro n hn
  have hn' : n < t.length := by simpa using hn
  have := h n (by omega) hn'
  have w := wgt_rng a k r x y n
  rw [adT, atI, getD_at hn']
  simp only [decide_eq_true_eq]
  omega
/-- What is added to a small buffer. -/
theorem add_fine {B : Int} {a b : Nat} {k r x y color : Int} {s t : List Int} (ha : 1 ≤ a ∧ a ≤ 12) (hb : 1 ≤ b ∧ b ≤ 12) (hs : s.length = a * b) (ht : t.length = a * b) (h : smallA B s t) (hB : B + 6400 ≤ 1000000000) (hf : validF k r = true) (hc : 0 ≤ color ∧ color ≤ 256) (hx : 0 ≤ x ∧ x ≤ a * 16 - 1) (hy : 0 ≤ y ∧ y ≤ b * 16 - 1) :
    addOk a b s t k r x y color = true ∧ addS a b s t k r x y color = sumsTo (wgt a k r x y) color s s.length ∧ addT a b s t k r x y color = wtsTo (wgt a k r x y) t t.length := by
  have hv := valid_small ha hb hs ht (h.mono (by omega))
  have ho : addOk a b s t k r x y color = true := by
    unfold addOk addCond
    rw [hv, hf, inB_mk hc.1 hc.2, inB_mk hx.1 hx.2, inB_mk hy.1 hy.2]
    simp only [Bool.true_and, Int.toNat_natCast]
    exact below_small h (by omega) hB
  refine ⟨ho, ?_, ?_⟩
  · unfold addS; rw [ho]; rfl
  · unfold addT; rw [ho]; rfl
theorem sums_swap (g g' : Nat → Int) (c c' : Int) (s : List Int) : sumsTo g' c' (sumsTo g c s s.length) (sumsTo g c s s.length).length = sumsTo g c (sumsTo g' c' s s.length) (sumsTo g' c' s s.length).length := by
  apply List.ext_getElem
  · simp only [sums_len]
  · intro n h1 h2
    simp only [sums_len] at h1
    rw [sums_at g' c' (by rw [sums_len]; exact h1) (by simp only [sums_len]; exact h1), sums_at g c h1 (by simp only [sums_len]; exact h1), sums_at g c (by rw [sums_len]; exact h1) (by simp only [sums_len]; exact h1), sums_at g' c' h1 (by simp only [sums_len]; exact h1)]
    omega
theorem wts_swap (g g' : Nat → Int) (t : List Int) : wtsTo g' (wtsTo g t t.length) (wtsTo g t t.length).length = wtsTo g (wtsTo g' t t.length) (wtsTo g' t t.length).length := by
  apply List.ext_getElem
  · simp only [wts_len]
  · intro n h1 h2
    simp only [wts_len] at h1
    rw [wts_at g' (by rw [wts_len]; exact h1) (by simp only [wts_len]; exact h1), wts_at g h1 (by simp only [wts_len]; exact h1), wts_at g (by rw [wts_len]; exact h1) (by simp only [wts_len]; exact h1), wts_at g' h1 (by simp only [wts_len]; exact h1)]
    omega
/-- A sample weighs something for its own pixel. -/
theorem wgt_own {a b : Nat} {k r x y : Int} (ha : 1 ≤ a ∧ a ≤ 12) (hb : 1 ≤ b ∧ b ≤ 12) (hf : validF k r = true) (hx : 0 ≤ x ∧ x ≤ a * 16 - 1) (hy : 0 ≤ y ∧ y ≤ b * 16 - 1) : ∃ n, n < a * b ∧ 1 ≤ wgt a k r x y n := by
  obtain ⟨xn, rfl⟩ := Int.eq_ofNat_of_zero_le hx.1
  obtain ⟨yn, rfl⟩ := Int.eq_ofNat_of_zero_le hy.1
  obtain ⟨I, hI⟩ : ∃ I, xn / 16 = I := ⟨_, rfl⟩
  obtain ⟨J, hJ⟩ : ∃ J, yn / 16 = J := ⟨_, rfl⟩
  have hi : I < a := by omega
  have hj : J < b := by omega
  have hI2 : I * 16 ≤ xn ∧ xn ≤ I * 16 + 15 := by omega
  have hJ2 : J * 16 ≤ yn ∧ yn ≤ J * 16 + 15 := by omega
  clear hI hJ
  refine ⟨J * a + I, ?_, ?_⟩
  · have : (J + 1) * a ≤ b * a := Nat.mul_le_mul_right _ hj
    rw [Nat.succ_mul] at this
    rw [Nat.mul_comm a b]; omega
  · rw [wgt_at hi rfl]
    have ho : okW (I : Int) (J : Int) xn yn = true := by unfold okW; rw [inB_mk (by omega) (by omega), inB_mk (by omega) (by omega), inB_mk (by omega) (by omega), inB_mk (by omega) (by omega)]; rfl
    unfold weightF
    rw [if_pos ho]
    obtain ⟨_, _, r1, r2⟩ := validF_rng hf
    have he : extF k r = 16 * (2 * r - 1) := by unfold extF; rw [if_pos hf]
    have d1 : distF xn (I : Int) ≤ 15 := by unfold distF absF; split <;> omega
    have d2 : distF yn (J : Int) ≤ 15 := by unfold distF absF; split <;> omega
    generalize distF xn (I : Int) = D1 at *
    generalize distF yn (J : Int) = D2 at *
    unfold wtF nearF
    rw [if_pos (by simp; omega)]
    split
    · omega
    · have h1 : 1 ≤ extF k r - D1 := by omega
      have h2 : 1 ≤ extF k r - D2 := by omega
      have := Int.mul_le_mul h1 h2 (by omega) (by omega)
      omega
theorem wts_differ {a b : Nat} {k r x y : Int} {g' : Nat → Int} {t : List Int} (ht : t.length = a * b) (ha : 1 ≤ a ∧ a ≤ 12) (hb : 1 ≤ b ∧ b ≤ 12) (hf : validF k r = true) (hx : 0 ≤ x ∧ x ≤ a * 16 - 1) (hy : 0 ≤ y ∧ y ≤ b * 16 - 1) (hg : ∀ n, 0 ≤ g' n) :
    ¬ t = wtsTo g' (wtsTo (wgt a k r x y) t t.length) (wtsTo (wgt a k r x y) t t.length).length := by
  intro h
  obtain ⟨n, hn, hw⟩ := wgt_own ha hb hf hx hy
  have hn' : n < t.length := by omega
  have e1 : t[n]? = (wtsTo g' (wtsTo (wgt a k r x y) t t.length) (wtsTo (wgt a k r x y) t t.length).length)[n]? := by rw [← h]
  rw [List.getElem?_eq_getElem hn', List.getElem?_eq_getElem (by simp only [wts_len]; exact hn')] at e1
  have e2 := Option.some.inj e1
  rw [wts_at g' (by rw [wts_len]; exact hn') (by simp only [wts_len]; exact hn'), wts_at _ hn' (by rw [wts_len]; exact hn')] at e2
  have := hg n
  omega
end Go.Proofs.Ythfnldjldfkmnaa
