/- Fragments in order and their deep list: what is computed. No program in sight. -/
import Derived.Test.YtaeajeclbcodeaaSimplify
import Derived.Test.YtaeajeclbcodeaaPairs
namespace Go.Proofs.Ytaeajeclbcodeaa
open Go.RowKit
set_option linter.unusedVariables false
def fLess (a b : EFragment) : Bool := if a.1 = b.1 then (if a.2.1 = b.2.1 then decide (a.2.2.1 < b.2.2.1) else decide (a.2.1 < b.2.1)) else decide (a.1 < b.1)
/-- The place of the first element that is greater. -/
def posF (f : EFragment) : List EFragment → Nat
  | [] => 0
  | x :: l => if fLess f x then 0 else posF f l + 1
theorem posF_le (f : EFragment) : ∀ l, posF f l ≤ l.length
  | [] => Nat.le_refl _
  | x :: l => by have := posF_le f l; simp only [posF]; split <;> simp; omega
theorem posF_lt (f : EFragment) : ∀ (l : List EFragment) (k : Nat) (hk : k < l.length), k < posF f l → fLess f l[k] = false
  | [], k, hk, _ => absurd hk (by simp)
  | x :: l, k, hk, h => by
    simp only [posF] at h
    split at h
    · omega
    · rename_i hx
      match k, hk, h with
      | 0, _, _ => simpa using hx
      | k + 1, hk, h => exact posF_lt f l k (by simpa using hk) (by omega)
theorem posF_at (f : EFragment) : ∀ (l : List EFragment) (h : posF f l < l.length), fLess f (l[posF f l]'h) = true
  | [], h => absurd h (by simp)
  | x :: l, h => by
    by_cases hx : fLess f x = true
    · have : posF f (x :: l) = 0 := by simp [posF, hx]
      simp [this, hx]
    · have e : posF f (x :: l) = posF f l + 1 := by simp [posF, hx]
      have := posF_at f l (by rw [e] at h; simpa using h)
      simp [e, this]
theorem posF_step {f : EFragment} {l : List EFragment} {k : Nat} (hk : k ≤ posF f l) (hlt : k < l.length) (h : fLess f l[k] = false) : k + 1 ≤ posF f l := by
  rcases Nat.lt_or_ge k (posF f l) with h1 | h1
  · exact h1
  · have e : posF f l = k := by omega
    have := posF_at f l (by omega)
    simp only [e] at this
    rw [this] at h; cases h
theorem posF_stop {f : EFragment} {l : List EFragment} {k : Nat} (hk : k ≤ posF f l) (hlt : k < l.length) (h : fLess f l[k] = true) : k = posF f l := by
  rcases Nat.lt_or_ge k (posF f l) with h1 | h1
  · have := posF_lt f l k hlt h1; rw [this] at h; cases h
  · omega
def insF (f : EFragment) (l : List EFragment) : List EFragment := l.take (posF f l) ++ f :: l.drop (posF f l)
theorem insF_len (f : EFragment) (l : List EFragment) : (insF f l).length = l.length + 1 := by
  have := posF_le f l
  simp [insF]; omega
theorem insF_cons (f x : EFragment) (l : List EFragment) : insF f (x :: l) = if fLess f x then f :: x :: l else x :: insF f l := by
  by_cases hx : fLess f x = true
  · have e : posF f (x :: l) = 0 := by simp [posF, hx]
    simp [insF, e, hx]
  · have e : posF f (x :: l) = posF f l + 1 := by simp [posF, hx]
    simp [insF, e, hx]
theorem mem_insF {f y : EFragment} {l : List EFragment} (h : y ∈ insF f l) : y = f ∨ y ∈ l := by
  unfold insF at h
  simp only [List.mem_append, List.mem_cons] at h
  rcases h with h | h | h
  · exact .inr (List.mem_of_mem_take h)
  · exact .inl h
  · exact .inr (List.mem_of_mem_drop h)
theorem fLess_le {a b : EFragment} (h : fLess a b = true) : a.1 ≤ b.1 := by
  unfold fLess at h
  split at h
  · omega
  · have := of_decide_eq_true h; omega
theorem fLess_ge {a b : EFragment} (h : fLess a b = false) : b.1 ≤ a.1 := by
  unfold fLess at h
  split at h
  · omega
  · have := of_decide_eq_false h; omega
abbrev SortedF (l : List EFragment) : Prop := l.Pairwise (fun a b => a.1 ≤ b.1)
theorem insF_sorted (f : EFragment) : ∀ l, SortedF l → SortedF (insF f l)
  | [], _ => by simp [insF, posF, SortedF]
  | x :: l, h => by
    rw [insF_cons]
    have h1 : ∀ y, y ∈ l → x.1 ≤ y.1 := fun y hy => List.rel_of_pairwise_cons h hy
    have h2 := List.Pairwise.of_cons h
    split
    · rename_i hx
      have := fLess_le hx
      refine List.Pairwise.cons (fun y hy => ?_) h
      rcases List.mem_cons.1 hy with rfl | hy
      · exact this
      · exact Int.le_trans this (h1 _ hy)
    · rename_i hx
      have hx' : fLess f x = false := by simpa using hx
      refine List.Pairwise.cons (fun y hy => ?_) (insF_sorted f l h2)
      rcases mem_insF hy with rfl | hy
      · exact fLess_ge hx'
      · exact h1 _ hy
def sortStep (o : List EFragment) (f : EFragment) : List EFragment := if inB f.1 (-1000000) 1000000 then insF f o else o
def sortTo (l : List EFragment) (k : Nat) : List EFragment := (l.take k).foldl sortStep []
theorem sortTo_succ {l : List EFragment} {k : Nat} (h : k < l.length) : sortTo l (k + 1) = sortStep (sortTo l k) l[k] := by
  unfold sortTo; rw [List.take_succ_eq_append_getElem h, List.foldl_append]; rfl
theorem sortTo_rng {l : List EFragment} : ∀ k, k ≤ l.length → (sortTo l k).length ≤ k ∧ SortedF (sortTo l k) ∧ ∀ x, x ∈ sortTo l k → inB x.1 (-1000000) 1000000 = true
  | 0, _ => by simp [sortTo, SortedF]
  | k + 1, hk => by
    obtain ⟨h1, h2, h3⟩ := sortTo_rng (l := l) k (by omega)
    rw [sortTo_succ (by omega)]
    unfold sortStep
    split
    · rename_i hb
      refine ⟨by rw [insF_len]; omega, insF_sorted _ _ h2, fun x hx => ?_⟩
      rcases mem_insF hx with rfl | hx
      · exact hb
      · exact h3 x hx
    · exact ⟨by omega, h2, h3⟩
def fAt (o : List EFragment) (k : Nat) : EFragment := o[k]?.getD (0, 0, 0, 0, 0)
theorem fAt_at {o : List EFragment} {k : Nat} (h : k < o.length) : fAt o k = o[k] := by simp [fAt, h]
theorem clamp_rng (a : Int) : 0 ≤ clampF a 0 256 ∧ clampF a 0 256 ≤ 256 := by unfold clampF; split <;> (try split) <;> omega
/-- The light behind a fragment. -/
def wStep (w : Int) (f : EFragment) : Int := w - Int.tdiv (w * clampF f.2.2.2.2 0 256) 256
theorem wPart {w a : Int} (h0 : 0 ≤ w) (h1 : w ≤ 65536) (ha0 : 0 ≤ a) (ha : a ≤ 256) : 0 ≤ w * a ∧ w * a ≤ 16777216 ∧ 0 ≤ Int.tdiv (w * a) 256 ∧ Int.tdiv (w * a) 256 ≤ w := by
  have h2 : 0 ≤ w * a := Int.mul_nonneg h0 ha0
  have h3 : w * a ≤ w * 256 := Int.mul_le_mul_of_nonneg_left ha h0
  refine ⟨h2, by omega, ?_, ?_⟩
  · rw [Int.tdiv_eq_ediv_of_nonneg h2]; omega
  · rw [Int.tdiv_eq_ediv_of_nonneg h2]; omega
theorem wStep_rng {w : Int} (f : EFragment) (h0 : 0 ≤ w) (h1 : w ≤ 65536) : 0 ≤ wStep w f ∧ wStep w f ≤ w := by
  obtain ⟨c0, c1⟩ := clamp_rng f.2.2.2.2
  obtain ⟨_, _, h2, h3⟩ := wPart h0 h1 c0 c1
  unfold wStep
  omega
def wAt (o : List EFragment) : Nat → Int
  | 0 => 65536
  | k + 1 => wStep (wAt o k) (fAt o k)
theorem wAt_rng (o : List EFragment) : ∀ k, 0 ≤ wAt o k ∧ wAt o k ≤ 65536
  | 0 => by simp [wAt]
  | k + 1 => by
    obtain ⟨h0, h1⟩ := wAt_rng o k
    have := wStep_rng (fAt o k) h0 h1
    simp only [wAt]; omega
/-- The last fragment of its depth. -/
def endS (o : List EFragment) (k : Nat) : Bool := decide (k + 1 = o.length) || decide (¬ (fAt o (k + 1)).1 = (fAt o k).1)
def endI (o : List EFragment) (k : Nat) : Bool := decide (k + 1 = o.length) || decide ((fAt o k).1 < (fAt o (k + 1)).1)
theorem endI_eq {o : List EFragment} (hs : SortedF o) {k : Nat} (hk : k < o.length) : endI o k = endS o k := by
  unfold endI endS
  by_cases h : k + 1 = o.length
  · simp [h]
  · have h1 : k + 1 < o.length := by omega
    have := (List.pairwise_iff_getElem.1 hs) k (k + 1) hk h1 (by omega)
    rw [fAt_at hk, fAt_at h1]
    simp only [h, decide_false, Bool.false_or]
    congr 1
    apply propext
    omega
def outS (o : List EFragment) : Nat → List EDeepStep
  | 0 => []
  | k + 1 => if endS o k && decide (¬ wAt o (k + 1) = lastWt (outS o k)) then outS o k ++ [((fAt o k).1, wAt o (k + 1))] else outS o k
/-- The list with a further step, if the weight falls and there is room. -/
def deeperF (l : List EDeepStep) (d w : Int) : List EDeepStep := if decide (w < lastWt l) && decide (l.length < 64) then l ++ [(d, w)] else l
def outI (o : List EFragment) : Nat → List EDeepStep
  | 0 => []
  | k + 1 => if endI o k then deeperF (outI o k) (fAt o k).1 (wAt o (k + 1)) else outI o k
theorem deeperF_len (l : List EDeepStep) (d w : Int) (h : l.length ≤ 64) : (deeperF l d w).length ≤ 64 := by
  unfold deeperF; split
  · rename_i h1; simp at h1; simp; omega
  · exact h
theorem outI_len (o : List EFragment) : ∀ k, (outI o k).length ≤ 64
  | 0 => by simp [outI]
  | k + 1 => by have := outI_len o k; simp only [outI]; split; exact deeperF_len _ _ _ this; exact this
theorem outS_len (o : List EFragment) : ∀ k, (outS o k).length ≤ k
  | 0 => by simp [outS]
  | k + 1 => by have := outS_len o k; simp only [outS]; split <;> simp <;> omega
theorem outS_last (o : List EFragment) : ∀ k, wAt o k ≤ lastWt (outS o k) ∧ 0 ≤ lastWt (outS o k) ∧ lastWt (outS o k) ≤ 65536
  | 0 => by simp [wAt, outS, lastWt]
  | k + 1 => by
    obtain ⟨h1, h2, h3⟩ := outS_last o k
    have r := wAt_rng o k
    have r1 := wAt_rng o (k + 1)
    have s := wStep_rng (fAt o k) r.1 r.2
    simp only [outS]
    split
    · rw [lastWt_snoc]; exact ⟨Int.le_refl _, r1.1, r1.2⟩
    · refine ⟨?_, h2, h3⟩
      simp only [wAt]; omega
theorem outI_eq {o : List EFragment} (hs : SortedF o) : ∀ k, k ≤ o.length → outI o k = (outS o k).take 64
  | 0, _ => by simp [outI, outS]
  | k + 1, hk => by
    have ih := outI_eq hs k (by omega)
    have hl := outS_last o (k + 1)
    have hl0 := outS_last o k
    have r := wAt_rng o k
    have s := wStep_rng (fAt o k) r.1 r.2
    have hle : wAt o (k + 1) ≤ lastWt (outS o k) := by simp only [wAt]; omega
    simp only [outI, outS]
    rw [endI_eq hs (by omega)]
    cases he : endS o k
    · simp [ih]
    · simp only [if_true, Bool.true_and]
      rcases Nat.lt_or_ge (outS o k).length 64 with h | h
      · have e : outI o k = outS o k := by rw [ih]; exact List.take_of_length_le (by omega)
        rw [e]
        unfold deeperF
        by_cases hw : wAt o (k + 1) = lastWt (outS o k)
        · rw [hw]; simp; exact (List.take_of_length_le (by omega)).symm
        · have h2 : wAt o (k + 1) < lastWt (outS o k) := by omega
          have e1 : (decide (wAt o (k + 1) < lastWt (outS o k)) && decide ((outS o k).length < 64)) = true := by simp [h2, h]
          rw [if_pos e1, if_pos (by simpa using hw), List.take_of_length_le (by simp; omega)]
      · have e : (outI o k).length = 64 := by rw [ih, List.length_take]; omega
        have e1 : (decide (wAt o (k + 1) < lastWt (outI o k)) && decide ((outI o k).length < 64)) = false := by simp [e]
        unfold deeperF
        rw [e1, ih]
        simp only [Bool.false_eq_true, if_false]
        split
        · rw [List.take_append_of_le_length h]
        · rfl
def deepF (l : List EFragment) : List EDeepStep := let o := sortTo l l.length; (outS o o.length).take 64
theorem deepF_len (l : List EFragment) : (deepF l).length ≤ 64 := by unfold deepF; exact List.length_take_le _ _
theorem deepF_I (l : List EFragment) : deepF l = outI (sortTo l l.length) (sortTo l l.length).length := by
  rw [outI_eq (sortTo_rng l.length (Nat.le_refl _)).2.1 _ (Nat.le_refl _)]; rfl
theorem rFragment_one (l : List EFragment) : ∀ u ∈ rFragment l, u.oneCell' = true := by
  intro u hu
  obtain ⟨x, _, hx⟩ := List.mem_flatMap.1 hu
  simp only [cFragment, List.mem_cons, List.not_mem_nil, or_false] at hx
  rcases hx with rfl | rfl | rfl | rfl | rfl <;> rfl
theorem rFragment_app (a b : List EFragment) : rFragment (a ++ b) = rFragment a ++ rFragment b := by simp [rFragment, rowOf]
theorem rFragment_take (l : List EFragment) (k : Nat) : rFragment (l.take k) = (rFragment l).take (k * 5) := by
  rcases Nat.lt_or_ge k l.length with h | h
  · have e : (rFragment (l.take k)).length = k * 5 := by rw [rFragment_len, List.length_take]; omega
    have h2 : rFragment l = rFragment (l.take k) ++ rFragment (l.drop k) := by rw [← rFragment_app, List.take_append_drop]
    rw [h2, ← e, List.take_left]
  · rw [List.take_of_length_le h, List.take_of_length_le (by rw [rFragment_len]; omega)]
theorem rFragment_drop (l : List EFragment) (k : Nat) (h : k ≤ l.length) : rFragment (l.drop k) = (rFragment l).drop (k * 5) := by
  have e : (rFragment (l.take k)).length = k * 5 := by rw [rFragment_len, List.length_take]; omega
  have h2 : rFragment l = rFragment (l.take k) ++ rFragment (l.drop k) := by rw [← rFragment_app, List.take_append_drop]
  rw [h2, ← e, List.drop_left]
theorem T.infoFragment : (Try.prog.info? 48).map (fun i => (i.zero, i.size, i.bytes)) = some (some (.agg #[.int .i64 0, .int .i64 0, .int .i64 0, .int .i64 0, .int .i64 0]), 5, 40) := by kernel_rfl
end Go.Proofs.Ytaeajeclbcodeaa
