/- Deep lists: what is true of them. No program in sight. -/
import Derived.Test.YtaeajeclbcodeaaDeepP
import Derived.Test.YtaeajeclbcodeaaDeepT
namespace Go.Proofs.Ytaeajeclbcodeaa
open Go.RowKit
set_option linter.unusedVariables false
/-- A later step lies deeper and lets less light pass. -/
abbrev FallsD (l : List EDeepStep) : Prop := l.Pairwise (fun a b => a.1 < b.1 ∧ b.2 < a.2)
theorem lastWt_le {l : List EDeepStep} (h : FallsD l) : ∀ x, x ∈ l → lastWt l ≤ x.2 := by
  intro x hx
  rcases List.eq_nil_or_concat l with rfl | ⟨m, y, rfl⟩
  · cases hx
  · rw [List.concat_eq_append] at h hx ⊢
    rw [lastWt_snoc]
    rcases List.mem_append.1 hx with h1 | h1
    · exact Int.le_of_lt ((List.pairwise_append.1 h).2.2 x h1 y (by simp)).2
    · simp at h1; subst h1; exact Int.le_refl _
theorem lastWt_mem {l : List EDeepStep} (h : 0 < l.length) : ∃ x, x ∈ l ∧ lastWt l = x.2 := by
  rcases List.eq_nil_or_concat l with rfl | ⟨m, y, rfl⟩
  · simp at h
  · rw [List.concat_eq_append]; exact ⟨y, by simp, lastWt_snoc m y⟩
/-- A sublist's last weight is no less. -/
theorem lastWt_sub {a b : List EDeepStep} (hs : a.Sublist b) (h : FallsD b) (hb : ∀ x, x ∈ b → x.2 ≤ 65535) : lastWt b ≤ lastWt a := by
  rcases Nat.eq_zero_or_pos a.length with h0 | h0
  · rw [lastWt_nil h0]
    rcases Nat.eq_zero_or_pos b.length with h1 | h1
    · rw [lastWt_nil h1]; exact Int.le_refl _
    · obtain ⟨x, hx, e⟩ := lastWt_mem h1
      rw [e]; have := hb x hx; omega
  · obtain ⟨x, hx, e⟩ := lastWt_mem h0
    rw [e]; exact lastWt_le h x (hs.subset hx)
theorem lastW_filter_to (p : Int → Bool) (l : List EDeepStep) : ∀ k, k ≤ l.length → lastW p (l.take k) = lastWt ((l.take k).filter (fun x => p x.1))
  | 0, _ => by simp [lastW, lastWt]
  | k + 1, hk => by
    have ih := lastW_filter_to p l k (by omega)
    rw [lastW_take p (by omega), List.take_succ_eq_append_getElem (by omega), List.filter_append, ih]
    by_cases hp : p (l[k]'(by omega)).1 = true
    · simp only [hp, if_true, List.filter_cons, List.filter_nil]
      rw [lastWt_snoc]
    · have hp' : p (l[k]'(by omega)).1 = false := by simpa using hp
      simp [hp']
theorem lastW_filter (p : Int → Bool) (l : List EDeepStep) : lastW p l = lastWt (l.filter (fun x => p x.1)) := by
  have := lastW_filter_to p l l.length (Nat.le_refl _)
  rwa [List.take_length] at this
theorem validDeep_step {l : List EDeepStep} (h : validDeep l = true) {k : Nat} (hk : k < l.length) : stepB l k = true := by
  cases hb : stepB l k
  · rw [validDeep_false hk hb] at h; cases h
  · rfl
theorem validDeep_falls {l : List EDeepStep} (h : validDeep l = true) : FallsD l := by
  rw [FallsD, List.pairwise_iff_getElem]
  have adj : ∀ j (hj : j + 1 < l.length), l[j].1 < l[j + 1].1 ∧ l[j + 1].2 < l[j].2 := fun j hj => by
    have h1 := validDeep_step h hj
    rw [stepB_succ hj] at h1
    simp only [lessD, Bool.and_eq_true, decide_eq_true_eq] at h1
    exact h1.2
  have key : ∀ d i (hj : i + d + 1 < l.length), (l[i]'(by omega)).1 < l[i + d + 1].1 ∧ l[i + d + 1].2 < (l[i]'(by omega)).2 := by
    intro d
    induction d with
    | zero => intro i hj; exact adj i hj
    | succ d ih =>
      intro i hj
      have h1 := ih i (by omega)
      have h2 := adj (i + d + 1) (by omega)
      simp only [show i + (d + 1) + 1 = i + d + 1 + 1 by omega]
      omega
  intro i j hi hj hij
  have := key (j - i - 1) i (by omega)
  simp only [show i + (j - i - 1) + 1 = j by omega] at this
  exact this
theorem validDeep_mk {l : List EDeepStep} (h1 : l.length ≤ 64) (h2 : ∀ x, x ∈ l → inD x = true) (h3 : FallsD l) : validDeep l = true := by
  unfold validDeep stepsTo
  simp only [Bool.and_eq_true, decide_eq_true_eq, List.all_eq_true, List.mem_range]
  refine ⟨h1, fun k hk => ?_⟩
  cases k with
  | zero => rw [stepB_nul hk rfl]; exact h2 _ (List.getElem_mem hk)
  | succ j =>
    rw [stepB_succ hk, h2 _ (List.getElem_mem hk)]
    have := (List.pairwise_iff_getElem.1 h3) j (j + 1) (by omega) hk (by omega)
    simp [lessD, this.1, this.2]
theorem validDeep_in {l : List EDeepStep} (h : validDeep l = true) : ∀ x, x ∈ l → inD x = true := by
  intro x hx
  obtain ⟨k, hk, rfl⟩ := List.getElem_of_mem hx
  cases hd : inD l[k]
  · have := validDeep_step h hk; rw [stepB_in hk hd] at this; cases this
  · rfl
theorem inD_true {x : EDeepStep} (h : inD x = true) : (-1000000 ≤ x.1 ∧ x.1 ≤ 1000000) ∧ 0 ≤ x.2 ∧ x.2 ≤ 65535 := by
  simp only [inD, Bool.and_eq_true] at h
  exact ⟨inB_true h.1, inB_true h.2⟩
theorem validDeep_nil : validDeep [] = true := rfl
/-- What remains behind depths falls. -/
theorem trans_falls {l : List EDeepStep} (h : validDeep l = true) {z y : Int} (hzy : z ≤ y) : transF l y ≤ transF l z ∧ transF l z ≤ 65536 := by
  have hv := validDeep_falls h
  have hi := validDeep_in h
  unfold transF
  rw [if_pos h, if_pos h, lastW_filter, lastW_filter]
  have hs : (l.filter (fun x => below z x.1)).Sublist (l.filter (fun x => below y x.1)) := by
    have : l.filter (fun x => below z x.1) = (l.filter (fun x => below y x.1)).filter (fun x => below z x.1) := by
      rw [List.filter_filter]
      apply List.filter_congr
      intro x _
      simp only [below]
      by_cases h1 : x.1 < z
      · have : x.1 < y := by omega
        simp [h1, this]
      · simp [h1]
    rw [this]; exact List.filter_sublist
  refine ⟨lastWt_sub hs (hv.sublist List.filter_sublist) (fun x hx => (inD_true (hi x ((List.mem_filter.1 hx).1))).2.2), ?_⟩
  rcases Nat.eq_zero_or_pos (l.filter (fun x => below z x.1)).length with h0 | h0
  · rw [lastWt_nil h0]; exact Int.le_refl _
  · obtain ⟨x, hx, e⟩ := lastWt_mem h0
    have := (inD_true (hi x ((List.mem_filter.1 hx).1))).2.2
    rw [e]; omega
theorem trans_rng {l : List EDeepStep} (h : validDeep l = true) (z : Int) : 0 ≤ transF l z ∧ transF l z ≤ 65536 := by
  refine ⟨?_, (trans_falls h (Int.le_refl z)).2⟩
  unfold transF
  rw [if_pos h, lastW_filter]
  rcases Nat.eq_zero_or_pos (l.filter (fun x => below z x.1)).length with h0 | h0
  · rw [lastWt_nil h0]; omega
  · obtain ⟨x, hx, e⟩ := lastWt_mem h0
    have := (inD_true (validDeep_in h x (List.mem_filter.1 hx).1)).2.1
    rw [e]; omega
theorem trans_all {l : List EDeepStep} (h : validDeep l = true) {z : Int} (hz : ∀ x, x ∈ l → x.1 < z) : transF l z = lastWt l := by
  unfold transF
  rw [if_pos h, lastW_filter, List.filter_eq_self.2]
  intro x hx
  simp [below, hz x hx]
-- the simplified list
theorem simpTo_sub (t : Int) (l : List EDeepStep) : ∀ k, k ≤ l.length → (simpTo t l k).Sublist (l.take k)
  | 0, _ => by simp [simpTo]
  | k + 1, hk => by
    have ih := simpTo_sub t l k (by omega)
    rw [simpTo_succ (by omega), List.take_succ_eq_append_getElem (by omega)]
    unfold simpStep
    split
    · exact ih.append (List.Sublist.refl _)
    · exact ih.trans (List.sublist_append_left _ _)
theorem simpF_sub (l : List EDeepStep) (t : Int) : (simpF l t).Sublist l := by
  unfold simpF
  split
  · have := simpTo_sub t l l.length (Nat.le_refl _)
    rwa [List.take_length] at this
  · exact List.nil_sublist _
theorem valid_sub {a b : List EDeepStep} (hs : a.Sublist b) (h : validDeep b = true) : validDeep a = true :=
  validDeep_mk (Nat.le_trans hs.length_le (validDeep_len h)) (fun x hx => validDeep_in h x (hs.subset hx)) ((validDeep_falls h).sublist hs)
theorem simp_off {l : List EDeepStep} {t z : Int} (h : validDeep l = true) (ht : 0 ≤ t) : ∀ k, k ≤ l.length → lastWt ((simpTo t l k).filter (fun x => below z x.1)) - lastWt ((l.take k).filter (fun x => below z x.1)) ≤ t
  | 0, _ => by simp [simpTo, lastWt]; omega
  | k + 1, hk => by
    have ih := simp_off h ht (z := z) k (by omega)
    have hf := validDeep_falls h
    rw [simpTo_succ (by omega), List.take_succ_eq_append_getElem (by omega), List.filter_append]
    by_cases hp : (l[k]'(by omega)).1 < z
    · have hall : ∀ x, x ∈ l.take k → below z x.1 = true := fun x hx => by
        obtain ⟨i, hi, rfl⟩ := List.getElem_of_mem hx
        rw [List.length_take] at hi
        have := (List.pairwise_iff_getElem.1 hf) i k (by omega) (by omega) (by omega)
        simp only [List.getElem_take, below, decide_eq_true_eq]
        omega
      have e1 : [(l[k]'(by omega))].filter (fun x => below z x.1) = [(l[k]'(by omega))] := by simp [below, hp]
      rw [e1, lastWt_snoc]
      unfold simpStep
      split
      · rw [List.filter_append, e1, lastWt_snoc]; omega
      · rename_i hn
        rw [List.filter_eq_self.2 (fun x hx => hall x ((simpTo_sub t l k (by omega)).subset hx))]
        omega
    · have e1 : [(l[k]'(by omega))].filter (fun x => below z x.1) = [] := by simp [below, hp]
      rw [e1, List.append_nil]
      unfold simpStep
      split
      · rw [List.filter_append, e1, List.append_nil]; exact ih
      · exact ih
theorem simp_trans {l : List EDeepStep} {t z : Int} (h : validDeep l = true) (ht : 0 ≤ t ∧ t ≤ 65536) : 0 ≤ transF (simpF l t) z - transF l z ∧ transF (simpF l t) z - transF l z ≤ t := by
  have hs := valid_sub (simpF_sub l t) h
  have hi := validDeep_in h
  unfold transF
  rw [if_pos h, if_pos hs, lastW_filter, lastW_filter]
  constructor
  · have := lastWt_sub ((simpF_sub l t).filter (fun x => below z x.1)) ((validDeep_falls h).sublist List.filter_sublist) (fun x hx => (inD_true (hi x ((List.mem_filter.1 hx).1))).2.2)
    omega
  · have := simp_off (z := z) h ht.1 l.length (Nat.le_refl _)
    rw [List.take_length] at this
    rw [simpF_yes (by rw [h, inB_mk ht.1 ht.2]; rfl)]
    exact this
-- the deep list of fragments
theorem outS_falls {o : List EFragment} (hs : SortedF o) : ∀ k, k ≤ o.length → FallsD (outS o k) ∧ (∀ x, x ∈ outS o k → lastWt (outS o k) ≤ x.2 ∧ x.2 ≤ 65535 ∧ 0 ≤ x.2 ∧ (∃ f, f ∈ o ∧ f.1 = x.1)) ∧ (∀ h : k < o.length, ∀ x, x ∈ outS o k → x.1 < (o[k]'h).1)
  | 0, _ => by simp [outS, FallsD]
  | k + 1, hk => by
    obtain ⟨h1, h2, h3⟩ := outS_falls hs k (by omega)
    have hl := outS_last o k
    have hl1 := outS_last o (k + 1)
    have r := wAt_rng o (k + 1)
    have r0 := wAt_rng o k
    have st := wStep_rng (fAt o k) r0.1 r0.2
    have hle : wAt o (k + 1) ≤ lastWt (outS o k) := by simp only [wAt]; omega
    have hnext : ∀ h : k + 1 < o.length, (o[k]'(by omega)).1 ≤ (o[k + 1]'h).1 := fun h => (List.pairwise_iff_getElem.1 hs) k (k + 1) (by omega) h (by omega)
    simp only [outS] at hl1 ⊢
    split
    · rename_i hc
      simp only [hc, if_true] at hl1
      simp only [Bool.and_eq_true, decide_eq_true_eq] at hc
      obtain ⟨hend, hne⟩ := hc
      have hlt : wAt o (k + 1) < lastWt (outS o k) := by omega
      rw [fAt_at (show k < o.length by omega)] at *
      refine ⟨?_, ?_, ?_⟩
      · rw [FallsD, List.pairwise_append]
        refine ⟨h1, by simp, fun a ha b hb => ?_⟩
        simp only [List.mem_cons, List.not_mem_nil, or_false] at hb
        subst hb
        have := h2 a ha
        exact ⟨h3 (by omega) a ha, by show wAt o (k + 1) < a.2; omega⟩
      · intro x hx
        rw [lastWt_snoc]
        rcases List.mem_append.1 hx with hx | hx
        · have := h2 x hx
          exact ⟨by show wAt o (k + 1) ≤ x.2; omega, this.2⟩
        · simp only [List.mem_cons, List.not_mem_nil, or_false] at hx
          subst hx
          exact ⟨Int.le_refl _, by show wAt o (k + 1) ≤ 65535; omega, r.1, o[k], List.getElem_mem _, rfl⟩
      · intro h x hx
        have hn := hnext h
        rcases List.mem_append.1 hx with hx | hx
        · have := h3 (by omega) x hx; omega
        · simp only [List.mem_cons, List.not_mem_nil, or_false] at hx
          subst hx
          unfold endS at hend
          rw [fAt_at h, fAt_at (show k < o.length by omega)] at hend
          simp only [Bool.or_eq_true, decide_eq_true_eq] at hend
          rcases hend with h' | h'
          · omega
          · show (o[k]).1 < _; omega
    · exact ⟨h1, h2, fun h x hx => by have := h3 (by omega) x hx; have := hnext h; omega⟩
theorem deepF_valid (l : List EFragment) : validDeep (deepF l) = true := by
  obtain ⟨_, hs, hb⟩ := sortTo_rng (l := l) l.length (Nat.le_refl _)
  obtain ⟨h1, h2, _⟩ := outS_falls hs _ (Nat.le_refl _)
  have hsub : (deepF l).Sublist (outS (sortTo l l.length) (sortTo l l.length).length) := List.take_sublist _ _
  refine validDeep_mk (deepF_len l) (fun x hx => ?_) (h1.sublist hsub)
  obtain ⟨_, a, b, f, hf, e⟩ := h2 x (hsub.subset hx)
  unfold inD
  rw [← e, hb f hf, inB_mk b a]
  rfl
-- fragments that are in order already
theorem fLess_iff (a b : EFragment) : fLess a b = true ↔ a.1 < b.1 ∨ (a.1 = b.1 ∧ (a.2.1 < b.2.1 ∨ (a.2.1 = b.2.1 ∧ a.2.2.1 < b.2.2.1))) := by
  unfold fLess
  by_cases h1 : a.1 = b.1
  · by_cases h2 : a.2.1 = b.2.1
    · simp [h1, h2]
    · simp [h1, h2]
  · simp [h1]
theorem fLess_no (a b : EFragment) : fLess a b = false ↔ ¬ (a.1 < b.1 ∨ (a.1 = b.1 ∧ (a.2.1 < b.2.1 ∨ (a.2.1 = b.2.1 ∧ a.2.2.1 < b.2.2.1)))) := by
  rw [← fLess_iff]; simp
abbrev OrderF (l : List EFragment) : Prop := l.Pairwise (fun a b => fLess b a = false)
theorem insF_order (f : EFragment) : ∀ l, OrderF l → OrderF (insF f l)
  | [], _ => by simp [insF, posF, OrderF]
  | x :: l, h => by
    rw [insF_cons]
    have h1 : ∀ y, y ∈ l → fLess y x = false := fun y hy => List.rel_of_pairwise_cons h hy
    have h2 := List.Pairwise.of_cons h
    split
    · rename_i hx
      rw [fLess_iff] at hx
      refine List.Pairwise.cons (fun y hy => ?_) h
      rw [fLess_no]
      rcases List.mem_cons.1 hy with rfl | hy
      · omega
      · have := h1 y hy; rw [fLess_no] at this; omega
    · rename_i hx
      have hx' : fLess f x = false := by simpa using hx
      refine List.Pairwise.cons (fun y hy => ?_) (insF_order f l h2)
      rcases mem_insF hy with rfl | hy
      · exact hx'
      · exact h1 _ hy
theorem posF_all {f : EFragment} : ∀ {l : List EFragment}, (∀ x, x ∈ l → fLess f x = false) → posF f l = l.length
  | [], _ => rfl
  | x :: l, h => by
    have h1 : fLess f x = false := h x (by simp)
    have ih := posF_all (f := f) (l := l) (fun y hy => h y (by simp [hy]))
    simp [posF, h1, ih]
theorem sort_self {l : List EFragment} (ho : OrderF l) (hr : ∀ x, x ∈ l → inB x.1 (-1000000) 1000000 = true) : ∀ k, k ≤ l.length → sortTo l k = l.take k
  | 0, _ => rfl
  | k + 1, hk => by
    rw [sortTo_succ (by omega), sort_self ho hr k (by omega), List.take_succ_eq_append_getElem (by omega)]
    unfold sortStep
    rw [hr _ (List.getElem_mem _)]
    have : posF (l[k]'(by omega)) (l.take k) = (l.take k).length := posF_all (fun x hx => by
      obtain ⟨i, hi, rfl⟩ := List.getElem_of_mem hx
      rw [List.length_take] at hi
      rw [List.getElem_take]
      exact (List.pairwise_iff_getElem.1 ho) i k (by omega) (by omega) (by omega))
    simp only [if_true]
    unfold insF
    rw [this, List.take_length, List.drop_length]
theorem outS_end (o : List EFragment) : lastWt (outS o o.length) = wAt o o.length := by
  rcases Nat.eq_zero_or_pos o.length with h | h
  · rw [h]; rfl
  · obtain ⟨m, hm⟩ : ∃ m, o.length = m + 1 := ⟨o.length - 1, by omega⟩
    have he : endS o m = true := by unfold endS; simp [hm]
    rw [hm]
    simp only [outS, he, Bool.true_and]
    split
    · rw [lastWt_snoc]
    · rename_i h1
      have h2 : wAt o (m + 1) = lastWt (outS o m) := by simpa using h1
      exact h2.symm
theorem deepF_last {l : List EFragment} (ho : OrderF l) (hr : ∀ x, x ∈ l → inB x.1 (-1000000) 1000000 = true) (hl : l.length ≤ 64) : lastWt (deepF l) = wAt l l.length := by
  unfold deepF
  rw [sort_self ho hr l.length (Nat.le_refl _), List.take_length]
  show lastWt ((outS l l.length).take 64) = _
  rw [List.take_of_length_le (by have := outS_len l l.length; omega), outS_end]
theorem deepF_from (l : List EFragment) {lo hi : Int} (h : ∀ x, x ∈ l → lo ≤ x.1 ∧ x.1 ≤ hi) : ∀ x, x ∈ deepF l → lo ≤ x.1 ∧ x.1 ≤ hi := by
  intro x hx
  obtain ⟨_, hs, _⟩ := sortTo_rng (l := l) l.length (Nat.le_refl _)
  obtain ⟨_, h2, _⟩ := outS_falls hs _ (Nat.le_refl _)
  obtain ⟨_, _, _, f, hf, e⟩ := h2 x (List.take_subset _ _ hx)
  have hm : ∀ k, k ≤ l.length → ∀ y, y ∈ sortTo l k → y ∈ l := by
    intro k
    induction k with
    | zero => intro _ y hy; simp [sortTo] at hy
    | succ k ih =>
      intro hk y hy
      rw [sortTo_succ (by omega)] at hy
      unfold sortStep at hy
      split at hy
      · rcases mem_insF hy with rfl | hy
        · exact List.getElem_mem _
        · exact ih (by omega) y hy
      · exact ih (by omega) y hy
  rw [← e]
  exact h f (hm _ (Nat.le_refl _) f hf)
-- compositing
def compTo (l : List EFragment) : Nat → Int
  | 0 => 0
  | k + 1 => compTo l k + Int.tdiv (wAt l k * clampF (fAt l k).2.2.2.2 0 256) 256 * clampF (fAt l k).2.2.2.1 0 256
def compF (l : List EFragment) : Int := Int.tdiv (compTo l l.length) 65536
theorem compTo_rng (l : List EFragment) : ∀ k, 0 ≤ compTo l k ∧ compTo l k ≤ 16777216 * k
  | 0 => by simp [compTo]
  | k + 1 => by
    obtain ⟨h1, h2⟩ := compTo_rng l k
    obtain ⟨r0, r1⟩ := wAt_rng l k
    obtain ⟨c0, c1⟩ := clamp_rng (fAt l k).2.2.2.2
    obtain ⟨e0, e1⟩ := clamp_rng (fAt l k).2.2.2.1
    obtain ⟨_, _, p2, p3⟩ := wPart r0 r1 c0 c1
    have m0 := Int.mul_nonneg p2 e0
    have m1 : Int.tdiv (wAt l k * clampF (fAt l k).2.2.2.2 0 256) 256 * clampF (fAt l k).2.2.2.1 0 256 ≤ 65536 * 256 := Int.mul_le_mul (by omega) e1 e0 (by omega)
    simp only [compTo]
    omega
/-- All light of the colour 256. -/
abbrev lit (x : EFragment) : EFragment := (x.1, x.2.1, x.2.2.1, 256, x.2.2.2.2)
theorem fAt_lit (l : List EFragment) {k : Nat} (h : k < l.length) : fAt (l.map lit) k = lit (fAt l k) := by
  rw [fAt_at (by simpa using h), fAt_at h, List.getElem_map]
theorem lit_to (l : List EFragment) : ∀ k, k ≤ l.length → wAt (l.map lit) k = wAt l k ∧ compTo (l.map lit) k = 256 * (65536 - wAt l k)
  | 0, _ => by simp [wAt, compTo]
  | k + 1, hk => by
    obtain ⟨h1, h2⟩ := lit_to l k (by omega)
    have hf := fAt_lit l (k := k) (by omega)
    have hc : clampF 256 0 256 = 256 := by decide
    constructor
    · simp only [wAt, h1, hf, wStep]
    · simp only [compTo, wAt, h1, h2, hf, hc, wStep]
      omega
theorem compF_lit (l : List EFragment) : compF (l.map lit) = Int.tdiv (65536 - wAt l l.length) 256 := by
  unfold compF
  have h := (lit_to l l.length (Nat.le_refl _)).2
  have r := wAt_rng l l.length
  rw [List.length_map, h, Int.tdiv_eq_ediv_of_nonneg (by omega), Int.tdiv_eq_ediv_of_nonneg (by omega)]
  omega
end Go.Proofs.Ytaeajeclbcodeaa
