/- FnBuckets: the plain law: the buckets of an image hold every pixel once. No program in sight. -/
import Derived.Test.YthpanpedoeghoaaMissP
set_option linter.unusedVariables false
set_option linter.unusedSimpArgs false
set_option linter.unnecessarySimpa false
namespace Go.Proofs.Ythpanpedoeghoaa
open Go.RowKit
set_option linter.unusedVariables false
/-- How many steps of s cover n. -/
def nb (n s : Nat) : Nat := (n + s - 1) / s
theorem lt_nb {n s u : Nat} (hs : 1 ≤ s) : u < nb n s ↔ s * u < n := by
  unfold nb
  rw [Nat.lt_div_iff_mul_lt (by omega), Nat.mul_comm u s]
  omega
def bkAt (a b s k : Nat) : EBucket := let u := k % nb a s; let v := k / nb a s; ((s * u : Nat), (s * v : Nat), (min s (a - s * u) : Nat), (min s (b - s * v) : Nat))
def bks (a b s : Nat) : List EBucket := (List.range (nb a s * nb b s)).map (bkAt a b s)
theorem bks_len (a b s : Nat) : (bks a b s).length = nb a s * nb b s := by simp [bks]
theorem bks_at {a b s k : Nat} (h : k < (bks a b s).length) : (bks a b s)[k] = bkAt a b s k := by simp [bks]
/-- The number of the bucket that holds pixel i. -/
def bno (a s i : Nat) : Nat := i / a / s * nb a s + i % a / s
theorem bk_facts {a b s k : Nat} (ha : 1 ≤ a) (hs : 1 ≤ s) (hk : k < nb a s * nb b s) : ∃ x y p q : Nat, bkAt a b s k = ((x : Int), (y : Int), (p : Int), (q : Int)) ∧ x + p ≤ a ∧ y + q ≤ b ∧ 1 ≤ p ∧ 1 ≤ q ∧
    ∀ i, i < a * b → (bno a s i = k ↔ ∃ j, j < p * q ∧ bAt a x y p j = i) := by
  have hn : 0 < nb a s := by rcases Nat.eq_zero_or_pos (nb a s) with h | h; (rw [h, Nat.zero_mul] at hk; omega); exact h
  have hu : k % nb a s < nb a s := Nat.mod_lt _ hn
  have hv : k / nb a s < nb b s := Nat.div_lt_of_lt_mul hk
  have hu' := (lt_nb hs).1 hu
  have hv' := (lt_nb hs).1 hv
  have hkk : k / nb a s * nb a s + k % nb a s = k := by rw [Nat.mul_comm]; exact Nat.div_add_mod k _
  unfold bkAt bno
  generalize k % nb a s = u at *
  generalize k / nb a s = v at *
  refine ⟨s * u, s * v, min s (a - s * u), min s (b - s * v), rfl, by omega, by omega, by omega, by omega, fun i hi => ?_⟩
  have hxp : s * u + min s (a - s * u) ≤ a := by omega
  have hp1 : 1 ≤ min s (a - s * u) := by omega
  have hc : i % a < a := Nat.mod_lt _ (by omega)
  have hr : i / a < b := Nat.div_lt_of_lt_mul hi
  constructor
  · intro h
    have hcs : i % a / s < nb a s := (lt_nb hs).2 (by have := Nat.div_mul_le_self (i % a) s; rw [Nat.mul_comm] at this; omega)
    have e1 : i % a / s = u := by
      have h1 : (i / a / s * nb a s + i % a / s) % nb a s = i % a / s := by rw [Nat.mul_comm, Nat.mul_add_mod, Nat.mod_eq_of_lt hcs]
      have h2 : (v * nb a s + u) % nb a s = u := by rw [Nat.mul_comm, Nat.mul_add_mod, Nat.mod_eq_of_lt hu]
      rw [← h1, h, ← hkk, h2]
    have e2 : i / a / s = v := by
      rw [← hkk, e1] at h
      have := Nat.add_right_cancel h
      exact Nat.eq_of_mul_eq_mul_right hn this
    have c1 := Nat.div_add_mod (i % a) s
    have r1 := Nat.div_add_mod (i / a) s
    rw [e1] at c1
    rw [e2] at r1
    have c2 : i % a % s < s := Nat.mod_lt _ (by omega)
    have r2 : i / a % s < s := Nat.mod_lt _ (by omega)
    have hcp : i % a % s < min s (a - s * u) := by omega
    have hrq : i / a % s < min s (b - s * v) := by omega
    refine ⟨i / a % s * min s (a - s * u) + i % a % s, ?_, ?_⟩
    · have h3 : (i / a % s + 1) * min s (a - s * u) ≤ min s (b - s * v) * min s (a - s * u) := Nat.mul_le_mul_right _ (by omega)
      rw [Nat.succ_mul] at h3
      rw [Nat.mul_comm (min s (a - s * u))]
      omega
    · unfold bAt
      rw [Nat.mul_comm (i / a % s), Nat.mul_add_div (by omega), Nat.mul_add_mod, Nat.mod_eq_of_lt hcp, Nat.div_eq_of_lt hcp, Nat.add_zero, r1, c1, Nat.mul_comm, Nat.div_add_mod]
  · rintro ⟨j, hj, rfl⟩
    obtain ⟨e1, e2⟩ := bAt_parts (y := s * v) (k := j) hp1 hxp
    have h1 : j % min s (a - s * u) < min s (a - s * u) := Nat.mod_lt _ (by omega)
    have h2 : j / min s (a - s * u) < min s (b - s * v) := Nat.div_lt_of_lt_mul hj
    rw [e1, e2, Nat.mul_add_div (by omega), Nat.mul_add_div (by omega), Nat.div_eq_of_lt (by omega), Nat.div_eq_of_lt (by omega), Nat.add_zero, Nat.add_zero, hkk]
/-- The film behind k buckets. -/
def donK (a b s k : Nat) : List Bool := (List.range (a * b)).map fun i => decide (bno a s i < k)
def pixZ (a b : Nat) : List Int := List.replicate (a * b) 0
theorem donK_len (a b s k : Nat) : (donK a b s k).length = a * b := by simp [donK]
theorem pixZ_len (a b : Nat) : (pixZ a b).length = a * b := by simp [pixZ]
theorem donK_at {a b s k i : Nat} (h : i < a * b) : (donK a b s k)[i]? = some (decide (bno a s i < k)) := by simp [donK, h]
theorem donK_zero (a b s : Nat) : donK a b s 0 = List.replicate (a * b) false := by
  refine List.ext_getElem? fun i => ?_
  by_cases h : i < a * b
  · rw [donK_at h]; simp [h]
  · rw [List.getElem?_eq_none (by rw [donK_len]; omega), List.getElem?_eq_none (by simp; omega)]
theorem bno_lt {a b s i : Nat} (ha : 1 ≤ a) (hs : 1 ≤ s) (hi : i < a * b) : bno a s i < nb a s * nb b s := by
  have hc : i % a < a := Nat.mod_lt _ (by omega)
  have hr : i / a < b := Nat.div_lt_of_lt_mul hi
  have h1 : i % a / s < nb a s := (lt_nb hs).2 (by have := Nat.div_mul_le_self (i % a) s; rw [Nat.mul_comm] at this; omega)
  have h2 : i / a / s < nb b s := (lt_nb hs).2 (by have := Nat.div_mul_le_self (i / a) s; rw [Nat.mul_comm] at this; omega)
  have h3 : (i / a / s + 1) * nb a s ≤ nb b s * nb a s := Nat.mul_le_mul_right _ (by omega)
  rw [Nat.succ_mul] at h3
  unfold bno
  rw [Nat.mul_comm (nb a s)]
  omega
theorem donTo_at (at_ : Nat → Nat) (t : List Bool) {i : Nat} (hi : i < t.length) : ∀ n, (donTo at_ always t n)[i]? = some (t[i] || decide (∃ j, j < n ∧ at_ j = i))
  | 0 => by simp [donTo, hi]
  | n + 1 => by
    simp only [donTo, if_true]
    by_cases h : at_ n = i
    · subst h
      rw [List.getElem?_set_self (by rw [donTo_len]; exact hi)]
      have : ∃ j, j < n + 1 ∧ at_ j = at_ n := ⟨n, by omega, rfl⟩
      simp [this]
    · rw [List.getElem?_set_ne h, donTo_at at_ t hi n]
      congr 2
      refine decide_eq_decide.2 ⟨fun ⟨j, h1, h2⟩ => ⟨j, by omega, h2⟩, fun ⟨j, h1, h2⟩ => ⟨j, ?_, h2⟩⟩
      rcases Nat.lt_or_ge j n with h3 | h3
      · exact h3
      · obtain rfl : j = n := by omega
        exact absurd h2 h
theorem count_done (at_ : Nat → Nat) (t : List Bool) : ∀ n, (∀ j, j < n → t[at_ j]? = some false) → (∀ i j, i < n → j < n → at_ i = at_ j → i = j) → (donTo at_ always t n).count true = t.count true + n
  | 0, _, _ => rfl
  | n + 1, h1, h2 => by
    have ih := count_done at_ t n (fun j hj => h1 j (by omega)) (fun i j hi hj => h2 i j (by omega) (by omega))
    obtain ⟨hl, he⟩ := List.getElem?_eq_some_iff.1 (h1 n (by omega))
    have hl' : at_ n < (donTo at_ always t n).length := by rw [donTo_len]; exact hl
    have hg : (donTo at_ always t n)[at_ n] = false := by
      have := donTo_at at_ t hl n
      rw [List.getElem?_eq_getElem hl', he] at this
      simp only [Option.some.injEq, Bool.false_or] at this
      rw [this, decide_eq_false_iff_not]
      rintro ⟨j, hj, h⟩
      have := h2 j n (by omega) (by omega) h
      omega
    simp only [donTo, if_true]
    rw [List.count_set hl', hg, ih]
    simp
    omega
theorem pixZ_put (a b : Nat) (at_ : Nat → Nat) (n m : Nat) : pixTo at_ always (atI (List.replicate m 0)) (pixZ a b) n = pixZ a b := by
  induction n with
  | zero => rfl
  | succ n ih =>
    simp only [pixTo, if_true, ih]
    have : atI (List.replicate m 0) n = 0 := by
      unfold atI
      by_cases h : n < m <;> simp [h]
    rw [this]
    unfold pixZ
    exact List.set_replicate_self
theorem validK {a b s k : Nat} (ha : 1 ≤ a ∧ a ≤ 12) (hb : 1 ≤ b ∧ b ≤ 12) : validFilm a b (pixZ a b) (donK a b s k) = true := by
  unfold validFilm
  simp only [Bool.and_eq_true, decide_eq_true_eq]
  refine ⟨by simp [sizeB, inB]; omega, by rw [pixZ_len]; exact Int.natCast_mul _ _, by rw [donK_len]; exact Int.natCast_mul _ _, ?_⟩
  rw [List.all_eq_true]
  rintro ⟨x, y⟩ hm
  have := (List.of_mem_zip hm).1
  unfold pixZ at this
  rw [List.mem_replicate] at this
  obtain ⟨_, rfl⟩ := this
  simp [filmPair, inB]
theorem inside_of {a b x y p q : Nat} (h1 : x + p ≤ a) (h2 : y + q ≤ b) (h3 : 1 ≤ p) (h4 : 1 ≤ q) : insideF x y p q a b = true := by
  unfold insideF inB
  simp only [Bool.and_eq_true, decide_eq_true_eq]
  omega
theorem insideK {a b s k : Nat} (ha : 1 ≤ a) (hs : 1 ≤ s) (hk : k < nb a s * nb b s) : ∃ x y p q : Nat, bkAt a b s k = ((x : Int), (y : Int), (p : Int), (q : Int)) ∧ 1 ≤ p ∧ 1 ≤ q ∧ p ≤ a ∧ q ≤ b ∧ insideF x y p q a b = true := by
  obtain ⟨x, y, p, q, e, h1, h2, h3, h4, h5⟩ := bk_facts ha hs hk
  exact ⟨x, y, p, q, e, h3, h4, by omega, by omega, inside_of h1 h2 h3 h4⟩
/-- What the law's loop asks of bucket k. -/
theorem roundK {a b s k : Nat} (ha : 1 ≤ a ∧ a ≤ 12) (hb : 1 ≤ b ∧ b ≤ 12) (hs : 1 ≤ s) (hk : k < nb a s * nb b s) : ∃ x y p q : Nat, bkAt a b s k = ((x : Int), (y : Int), (p : Int), (q : Int)) ∧ 1 ≤ p ∧ 1 ≤ q ∧ p ≤ a ∧ q ≤ b ∧ insideF x y p q a b = true ∧
    missF a b (pixZ a b) (donK a b s k) [((x : Int), (y : Int), (p : Int), (q : Int))] = [0] ∧
    putOk a b (pixZ a b) (donK a b s k) x y p q (List.replicate (p * q) 0) = true ∧ putS a b (pixZ a b) (donK a b s k) x y p q (List.replicate (p * q) 0) = pixZ a b ∧
    putT a b (pixZ a b) (donK a b s k) x y p q (List.replicate (p * q) 0) = donK a b s (k + 1) ∧ (donK a b s (k + 1)).count true = (donK a b s k).count true + p * q := by
  obtain ⟨x, y, p, q, e, h1, h2, h3, h4, h5⟩ := bk_facts (b := b) ha.1 hs hk
  have hi := inside_of h1 h2 h3 h4
  have hv := validK (s := s) (k := k) ha hb
  have hlt : ∀ j, j < p * q → bAt a x y p j < a * b := fun j hj => (bAt_lt h3 h1 h2 hj).1
  have hbn : ∀ j, j < p * q → bno a s (bAt a x y p j) = k := fun j hj => (h5 _ (hlt j hj)).2 ⟨j, hj, rfl⟩
  have hoff : ∀ j, j < p * q → (donK a b s k)[bAt a x y p j]? = some false := fun j hj => by rw [donK_at (hlt j hj), hbn j hj]; simp
  have hpos : 0 < p * q := Nat.mul_pos h3 h4
  have hok : putOk a b (pixZ a b) (donK a b s k) x y p q (List.replicate (p * q) 0) = true := by
    unfold putOk
    rw [hv, hi]
    simp only [Bool.true_and, Bool.and_eq_true, decide_eq_true_eq, List.length_replicate]
    refine ⟨Int.natCast_mul _ _, by simp [allIn, inB], ?_⟩
    unfold okTo
    rw [List.all_eq_true]
    intro j hj
    have hj : j < p * q := by simpa using hj
    have := hoff j hj
    simp only [okAt, Int.toNat_natCast, this]
    simp
  have hT : donTo (bAt a x y p) always (donK a b s k) (p * q) = donK a b s (k + 1) := by
    refine List.ext_getElem? fun i => ?_
    by_cases hil : i < a * b
    · have hl : i < (donK a b s k).length := by rw [donK_len]; exact hil
      rw [donTo_at _ _ hl, donK_at hil]
      have hg : (donK a b s k)[i] = decide (bno a s i < k) := by have := donK_at (s := s) (k := k) hil; rw [List.getElem?_eq_getElem hl] at this; simpa using this
      rw [hg]
      congr 1
      rw [Bool.eq_iff_iff]
      simp only [Bool.or_eq_true, decide_eq_true_eq]
      rw [← h5 i hil]
      omega
    · rw [List.getElem?_eq_none (by rw [donTo_len, donK_len]; omega), List.getElem?_eq_none (by rw [donK_len]; omega)]
  refine ⟨x, y, p, q, e, h3, h4, by omega, by omega, hi, ?_, hok, ?_, ?_, ?_⟩
  · unfold missF
    rw [hv]
    simp only [if_true, List.length_singleton, missTo]
    have : missOn a b (donK a b s k) [((x : Int), (y : Int), (p : Int), (q : Int))] 0 = true := by
      unfold missOn bOpen
      simp only [List.getElem?_cons_zero, Option.getD_some, hi, Bool.true_and, Int.toNat_natCast]
      refine anyOpen_true (k := 0) hpos ?_
      unfold openAt
      rw [hoff 0 hpos]
      rfl
    rw [this]
    rfl
  · unfold putS
    rw [hok]
    exact pixZ_put _ _ _ _ _
  · unfold putT
    rw [hok]
    simp only [if_true, Int.toNat_natCast, List.length_replicate]
    exact hT
  · rw [← hT]
    exact count_done _ _ _ hoff (fun i j hi hj h => bAt_inj h3 h1 h)
/-- Behind all buckets. -/
theorem endK {a b s : Nat} (ha : 1 ≤ a ∧ a ≤ 12) (hb : 1 ≤ b ∧ b ≤ 12) (hs : 1 ≤ s) : (donK a b s (nb a s * nb b s)).count true = a * b ∧ completeF a b (pixZ a b) (donK a b s (nb a s * nb b s)) = true ∧
    missF a b (pixZ a b) (donK a b s (nb a s * nb b s)) (bks a b s) = [] := by
  have hall : donK a b s (nb a s * nb b s) = List.replicate (a * b) true := by
    refine List.ext_getElem? fun i => ?_
    by_cases h : i < a * b
    · rw [donK_at h]; simp [h, bno_lt ha.1 hs h]
    · rw [List.getElem?_eq_none (by rw [donK_len]; omega), List.getElem?_eq_none (by simp; omega)]
  have hv := validK (s := s) (k := nb a s * nb b s) ha hb
  refine ⟨by rw [hall]; simp, by unfold completeF; rw [hv, hall]; simp, ?_⟩
  unfold missF
  rw [hv]
  simp only [if_true]
  have : ∀ k, k ≤ (bks a b s).length → missTo (missOn a b (donK a b s (nb a s * nb b s)) (bks a b s)) k = [] := by
    intro k hk
    induction k with
    | zero => rfl
    | succ k ih =>
      rw [missTo_off, ih (by omega)]
      have hk' : k < nb a s * nb b s := by rw [bks_len] at hk; omega
      rw [missOn_at (by omega), bks_at (by omega)]
      obtain ⟨x, y, p, q, e, h1, h2, h3, h4, _⟩ := bk_facts (b := b) ha.1 hs hk'
      rw [e]
      unfold bOpen
      rw [Bool.and_eq_false_iff]
      refine .inr ?_
      unfold anyOpen
      rw [List.any_eq_false]
      intro j hj
      have hj : j < p * q := by simpa using hj
      have hl := (bAt_lt (k := j) h3 h1 h2 hj).1
      unfold openAt
      rw [hall]
      simp [hl]
  exact this _ (Nat.le_refl _)
end Go.Proofs.Ythpanpedoeghoaa
