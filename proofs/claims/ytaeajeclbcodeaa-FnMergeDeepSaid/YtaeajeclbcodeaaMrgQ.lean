/- What is true of two merged deep lists. No program in sight. -/
import Derived.Test.YtaeajeclbcodeaaMrgP
namespace Go.Proofs.Ytaeajeclbcodeaa
open Go.RowKit
set_option linter.unusedVariables false
theorem mergeD_comm {a b : List Int} (ha : Asc a) (hb : Asc b) : mergeD a b = mergeD b a :=
  asc_ext (asc_mergeD ha hb) (asc_mergeD hb ha) (fun x => by rw [mem_mergeD, mem_mergeD]; exact Or.comm)
theorem mwF_comm (a b : List EDeepStep) (d : Int) : mwF a b d = mwF b a d := by unfold mwF; rw [Int.mul_comm]
theorem mergeF_comm (a b : List EDeepStep) : mergeF a b = mergeF b a := by
  unfold mergeF
  rw [Bool.and_comm]
  split
  · next h =>
    simp only [Bool.and_eq_true] at h
    rw [mergeD_comm (asc_dep h.2) (asc_dep h.1)]
    congr 1
    unfold mergeS
    congr 1
    funext o d
    unfold mstep
    rw [mwF_comm]
  · rfl
theorem upto_mono {l : List EDeepStep} (h : validDeep l = true) {d e : Int} (hde : d ≤ e) : lastW (upto e) l ≤ lastW (upto d) l := by
  have := (trans_falls h (show d + 1 ≤ e + 1 by omega)).1
  unfold transF at this
  rwa [if_pos h, if_pos h, below_upto, below_upto] at this
theorem mwF_mono {a b : List EDeepStep} (ha : validDeep a = true) (hb : validDeep b = true) {d e : Int} (hde : d ≤ e) : mwF a b e ≤ mwF a b d := by
  have h1 := prod_rng (upto_rng ha d) (upto_rng hb d)
  have h2 := prod_rng (upto_rng ha e) (upto_rng hb e)
  have h3 := Int.mul_le_mul (upto_mono ha hde) (upto_mono hb hde) (upto_rng hb e).1 (upto_rng ha d).1
  unfold mwF
  rw [Int.tdiv_eq_ediv_of_nonneg h1.1, Int.tdiv_eq_ediv_of_nonneg h2.1]
  omega
theorem mwF_le {a b : List EDeepStep} (ha : validDeep a = true) (hb : validDeep b = true) (d : Int) : mwF a b d ≤ lastW (upto d) a := by
  have h1 := prod_rng (upto_rng ha d) (upto_rng hb d)
  have h3 := Int.mul_le_mul_of_nonneg_left (upto_rng hb d).2 (upto_rng ha d).1
  unfold mwF
  rw [Int.tdiv_eq_ediv_of_nonneg h1.1]
  omega
/-- What is so of the merged steps, as long as the depths ascend. -/
theorem mergeS_ok {a b : List EDeepStep} (ha : validDeep a = true) (hb : validDeep b = true) (ds : List Int) : Asc ds →
    FallsD (mergeS a b ds) ∧ (∀ x, x ∈ mergeS a b ds → x.1 ∈ ds ∧ lastWt (mergeS a b ds) ≤ x.2 ∧ 0 ≤ x.2 ∧ x.2 ≤ 65535) ∧ (∀ d, (∀ e, e ∈ ds → e ≤ d) → mwF a b d ≤ lastWt (mergeS a b ds)) ∧ (∀ d, d ∈ ds → lastWt (mergeS a b ds) ≤ mwF a b d) := by
  induction ds using snoc_ind with
  | h0 =>
    intro _
    refine ⟨List.Pairwise.nil, fun x hx => (by cases hx), fun d _ => ?_, fun d hd => (by cases hd)⟩
    rw [show mergeS a b [] = [] from rfl, lastWt_nil rfl]; exact (mwF_rng ha hb d).2
  | hs ds D ih =>
    intro hA
    have hA' := List.pairwise_append.1 hA
    obtain ⟨i1, i2, i3, i4⟩ := ih hA'.1
    have hlt : ∀ e, e ∈ ds → e < D := fun e he => hA'.2.2 e he D (by simp)
    have h3 := i3 D (fun e he => Int.le_of_lt (hlt e he))
    have hr := mergeS_last ha hb ds
    have hw := mwF_rng ha hb D
    rw [mergeS_snoc]
    unfold mstep
    split
    · next hc =>
      refine ⟨List.pairwise_append.2 ⟨i1, by simp, fun x hx y hy => ?_⟩, fun x hx => ?_, fun d hd => ?_, fun d hd => ?_⟩
      · simp at hy; subst hy
        have h := i2 x hx
        exact ⟨hlt _ h.1, Int.lt_of_lt_of_le hc h.2.1⟩
      · rw [lastWt_snoc]
        rcases List.mem_append.1 hx with h | h
        · have g := i2 x h
          exact ⟨List.mem_append_left _ g.1, Int.le_trans (Int.le_of_lt hc) g.2.1, g.2.2⟩
        · simp at h; subst h
          exact ⟨by simp, Int.le_refl _, hw.1, by show mwF a b D ≤ 65535; omega⟩
      · rw [lastWt_snoc]
        exact mwF_mono ha hb (hd D (by simp))
      · rw [lastWt_snoc]
        rcases List.mem_append.1 hd with h | h
        · exact Int.le_trans (Int.le_of_lt hc) (i4 d h)
        · simp at h; subst h; exact Int.le_refl _
    · next hc =>
      refine ⟨i1, fun x hx => ⟨List.mem_append_left _ (i2 x hx).1, (i2 x hx).2⟩, fun d hd => i3 d (fun e he => hd e (List.mem_append_left _ he)), fun d hd => ?_⟩
      rcases List.mem_append.1 hd with h | h
      · exact i4 d h
      · simp at h; subst h; omega
theorem mergeF_valid (a b : List EDeepStep) : validDeep (mergeF a b) = true := by
  unfold mergeF
  split
  · next h =>
    simp only [Bool.and_eq_true] at h
    obtain ⟨h1, h2, _, _⟩ := mergeS_ok h.1 h.2 _ (asc_mergeD (asc_dep h.1) (asc_dep h.2))
    refine validDeep_mk (by rw [List.length_take]; omega) (fun x hx => ?_) (h1.sublist (List.take_sublist _ _))
    obtain ⟨g1, _, g2, g3⟩ := h2 x (List.mem_of_mem_take hx)
    have hd : -1000000 ≤ x.1 ∧ x.1 ≤ 1000000 := by
      rcases (mem_mergeD _ _ _).1 g1 with g | g
      · obtain ⟨y, hy, e⟩ := List.mem_map.1 g
        rw [← e]; exact (inD_true (validDeep_in h.1 y hy)).1
      · obtain ⟨y, hy, e⟩ := List.mem_map.1 g
        rw [← e]; exact (inD_true (validDeep_in h.2 y hy)).1
    unfold inD
    rw [inB_mk hd.1 hd.2, inB_mk g2 g3]; rfl
  · exact validDeep_nil
theorem mergeF_comm_len (a b : List EDeepStep) : (mergeF a b).length = (mergeF b a).length := by rw [mergeF_comm]
/-- The weight below z is that of the depths below z alone. -/
theorem lastW_mergeS {a b : List EDeepStep} (ha : validDeep a = true) (hb : validDeep b = true) (z : Int) (ds : List Int) : Asc ds → ∀ d, d ∈ ds → d < z → lastW (below z) (mergeS a b ds) ≤ mwF a b d := by
  induction ds using snoc_ind with
  | h0 => intro _ d hd; cases hd
  | hs ds D ih =>
    intro hA d hd hz
    have hA' := List.pairwise_append.1 hA
    have hlt : ∀ e, e ∈ ds → e < D := fun e he => hA'.2.2 e he D (by simp)
    by_cases hD : D < z
    · obtain ⟨_, i2, _, i4⟩ := mergeS_ok ha hb (ds ++ [D]) hA
      rw [lastW_filter, List.filter_eq_self.2 (fun x hx => by
        have h := (i2 x hx).1
        unfold below
        rw [decide_eq_true_eq]
        rcases List.mem_append.1 h with h | h
        · exact Int.lt_trans (hlt _ h) hD
        · simp at h; omega)]
      exact i4 d hd
    · have hd' : d ∈ ds := by
        rcases List.mem_append.1 hd with h | h
        · exact h
        · simp at h; omega
      have h := ih hA'.1 d hd' hz
      rw [mergeS_snoc]
      unfold mstep
      split
      · unfold lastW at h ⊢
        rw [List.foldl_append]
        simp only [List.foldl_cons, List.foldl_nil]
        rw [if_neg (by unfold below; simpa using hD)]
        exact h
      · exact h
theorem lastW_none {l : List EDeepStep} {p : Int → Bool} (h : ∀ x, x ∈ l → p x.1 = false) : lastW p l = 65536 := by
  rw [lastW_filter, List.filter_eq_nil_iff.2 (fun x hx => by rw [h x hx]; simp)]; rfl
theorem lastW_same {l : List EDeepStep} {p q : Int → Bool} (h : ∀ x, x ∈ l → p x.1 = q x.1) : lastW p l = lastW q l := by
  rw [lastW_filter, lastW_filter, List.filter_congr h]
theorem mergeF_trans {a b : List EDeepStep} (ha : validDeep a = true) (hb : validDeep b = true) (hn : a.length + b.length ≤ 64) (z : Int) : transF (mergeF a b) z ≤ transF a z := by
  have hv := mergeF_valid a b
  have hA := asc_mergeD (asc_dep ha) (asc_dep hb)
  have hl : mergeF a b = mergeS a b (mergeD (dep a) (dep b)) := by
    unfold mergeF
    rw [ha, hb, Bool.and_self, if_pos rfl, List.take_of_length_le]
    have h1 := mergeS_len a b (mergeD (dep a) (dep b))
    have h2 := mergeD_len (dep a) (dep b)
    have h3 : (dep a).length = a.length := by simp [dep]
    have h4 : (dep b).length = b.length := by simp [dep]
    omega
  have hm := (trans_rng hv z).2
  unfold transF at hm ⊢
  rw [if_pos hv] at hm ⊢
  rw [if_pos ha]
  by_cases hex : ∃ x, x ∈ a ∧ x.1 < z
  · -- the last depth of a below z
    obtain ⟨D, hD, hDz, hall⟩ : ∃ D, D ∈ dep a ∧ D < z ∧ ∀ x, x ∈ a → x.1 < z → x.1 ≤ D := by
      clear hm hl hA hv hn hb ha
      induction a with
      | nil => obtain ⟨x, hx, _⟩ := hex; cases hx
      | cons y a ih =>
        by_cases h2 : ∃ x, x ∈ a ∧ x.1 < z
        · obtain ⟨D, h3, h4, h5⟩ := ih h2
          by_cases hy : D < y.1 ∧ y.1 < z
          · refine ⟨y.1, by simp [dep], hy.2, fun x hx hxz => ?_⟩
            rcases List.mem_cons.1 hx with rfl | hx
            · exact Int.le_refl _
            · have := h5 x hx hxz; omega
          · refine ⟨D, List.mem_cons_of_mem _ h3, h4, fun x hx hxz => ?_⟩
            rcases List.mem_cons.1 hx with rfl | hx
            · omega
            · exact h5 x hx hxz
        · obtain ⟨x, hx, hxz⟩ := hex
          have hxy : x = y := by
            rcases List.mem_cons.1 hx with h | h
            · exact h
            · exact absurd ⟨x, h, hxz⟩ h2
          subst hxy
          refine ⟨x.1, by simp [dep], hxz, fun u hu huz => ?_⟩
          rcases List.mem_cons.1 hu with rfl | hu
          · exact Int.le_refl _
          · exact absurd ⟨u, hu, huz⟩ h2
    have h1 := lastW_mergeS ha hb z _ hA D ((mem_mergeD _ _ _).2 (.inl hD)) hDz
    have h2 := mwF_le ha hb D
    have h3 : lastW (upto D) a = lastW (below z) a := lastW_same (fun x hx => by
      unfold upto below
      by_cases hxz : x.1 < z
      · have := hall x hx hxz
        rw [decide_eq_true this, decide_eq_true hxz]
      · rw [decide_eq_false hxz, decide_eq_false (by omega)])
    rw [hl]; omega
  · rw [lastW_none (l := a) (fun x hx => by unfold below; rw [decide_eq_false]; exact fun h => hex ⟨x, hx, h⟩)]
    exact hm
theorem lastW_nil (p : Int → Bool) : lastW p [] = 65536 := rfl
theorem mergeF_nil {a : List EDeepStep} (ha : validDeep a = true) : mergeF a [] = a := by
  have hf := validDeep_falls ha
  have hw : ∀ k (h : k < a.length), mwF a [] a[k].1 = a[k].2 := fun k h => by
    have h1 : lastW (upto a[k].1) a = a[k].2 := by
      have e : a = a.take (k + 1) ++ a.drop (k + 1) := (List.take_append_drop _ _).symm
      have hp := List.pairwise_append.1 (e ▸ hf)
      have e2 : a.take (k + 1) = a.take k ++ [a[k]] := List.take_succ_eq_append_getElem h
      rw [lastW_filter]
      have e3 : a.filter (fun x => upto a[k].1 x.1) = a.take (k + 1) := by
        have es : ∀ p : EDeepStep → Bool, a.filter p = (a.take (k + 1)).filter p ++ (a.drop (k + 1)).filter p := fun p => by rw [← List.filter_append, List.take_append_drop]
        rw [es, List.filter_eq_self.2, List.filter_eq_nil_iff.2, List.append_nil]
        · intro x hx
          have := hp.2.2 a[k] (by rw [e2, List.mem_append]; exact .inr (List.mem_singleton.2 rfl)) x hx
          unfold upto; simp; omega
        · intro x hx
          rw [e2] at hx
          have hq := List.pairwise_append.1 (e2 ▸ hp.1)
          rcases List.mem_append.1 hx with g | g
          · have := hq.2.2 x g a[k] (by simp); unfold upto; simp; omega
          · simp at g; subst g; unfold upto; simp
      rw [e3, e2, lastWt_snoc]
    have hr := (inD_true (validDeep_in ha a[k] (List.getElem_mem h))).2
    unfold mwF
    rw [h1, lastW_nil, Int.tdiv_eq_ediv_of_nonneg (by omega)]
    omega
  have key : ∀ k, k ≤ a.length → mergeS a [] ((dep a).take k) = a.take k := by
    intro k
    induction k with
    | zero => intro _; rfl
    | succ k ih =>
      intro hk
      have hk' : k < a.length := by omega
      have e1 : (dep a).take (k + 1) = (dep a).take k ++ [a[k].1] := by
        rw [List.take_succ_eq_append_getElem (by unfold dep; simpa using hk')]; simp [dep]
      have e2 : a.take (k + 1) = a.take k ++ [a[k]] := List.take_succ_eq_append_getElem hk'
      rw [e1, mergeS_snoc, ih (by omega), e2]
      unfold mstep
      rw [hw k hk', if_pos]
      have hr := (inD_true (validDeep_in ha a[k] (List.getElem_mem hk'))).2
      rcases Nat.eq_zero_or_pos (a.take k).length with h0 | h0
      · rw [lastWt_nil h0]; omega
      · obtain ⟨x, hx, ex⟩ := lastWt_mem h0
        rw [ex]
        have e : a = a.take (k + 1) ++ a.drop (k + 1) := (List.take_append_drop _ _).symm
        have hp := (List.pairwise_append.1 (e ▸ hf)).1
        rw [e2] at hp
        exact ((List.pairwise_append.1 hp).2.2 x hx a[k] (by simp)).2
  have h64 := validDeep_len ha
  unfold mergeF
  rw [ha, validDeep_nil, Bool.and_self, if_pos rfl, show dep [] = [] from rfl, mergeD_nil]
  have := key a.length (Nat.le_refl _)
  rw [List.take_of_length_le (by unfold dep; simp), List.take_of_length_le (Nat.le_refl _)] at this
  rw [this, List.take_of_length_le h64]
end Go.Proofs.Ytaeajeclbcodeaa
