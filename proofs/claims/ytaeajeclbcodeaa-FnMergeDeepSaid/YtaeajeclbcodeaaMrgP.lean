/- Two deep lists merged, in plain Lean. -/
import Derived.Test.YtaeajeclbcodeaaDeepLaw
import Derived.Lib.SlicesCompact
namespace Go.Proofs.Ytaeajeclbcodeaa
open Go.RowKit
set_option linter.unusedVariables false
/-- The depths of two lists, each once. -/
def mergeD : List Int → List Int → List Int
  | [], b => b
  | x :: a, [] => x :: a
  | x :: a, y :: b => if x < y then x :: mergeD a (y :: b) else if y < x then y :: mergeD (x :: a) b else x :: mergeD a b
termination_by a b => a.length + b.length
theorem mergeD_nil (a : List Int) : mergeD a [] = a := by
  cases a <;> simp [mergeD]
theorem mergeD_lt {x y : Int} {a b : List Int} (h : x < y) : mergeD (x :: a) (y :: b) = x :: mergeD a (y :: b) := by rw [mergeD, if_pos h]
theorem mergeD_gt {x y : Int} {a b : List Int} (h : y < x) : mergeD (x :: a) (y :: b) = y :: mergeD (x :: a) b := by rw [mergeD, if_neg (by omega), if_pos h]
theorem mergeD_eq {x : Int} {a b : List Int} : mergeD (x :: a) (x :: b) = x :: mergeD a b := by rw [mergeD, if_neg (by omega), if_neg (by omega)]
theorem mem_mergeD : ∀ (a b : List Int) (z : Int), z ∈ mergeD a b ↔ z ∈ a ∨ z ∈ b
  | [], b, z => by simp [mergeD]
  | x :: a, [], z => by simp [mergeD]
  | x :: a, y :: b, z => by
    rcases Int.lt_trichotomy x y with h | h | h
    · rw [mergeD_lt h, List.mem_cons, mem_mergeD a (y :: b) z, List.mem_cons (a := z) (b := x)]; simp only [or_assoc]
    · subst h; rw [mergeD_eq, List.mem_cons, mem_mergeD a b z]; simp only [List.mem_cons]
      constructor
      · rintro (h | h | h)
        · exact .inl (.inl h)
        · exact .inl (.inr h)
        · exact .inr (.inr h)
      · rintro ((h | h) | (h | h))
        · exact .inl h
        · exact .inr (.inl h)
        · exact .inl h
        · exact .inr (.inr h)
    · rw [mergeD_gt h, List.mem_cons, mem_mergeD (x :: a) b z, List.mem_cons (a := z) (b := y)]
      constructor
      · rintro (h | h | h)
        · exact .inr (.inl h)
        · exact .inl h
        · exact .inr (.inr h)
      · rintro (h | h | h)
        · exact .inr (.inl h)
        · exact .inl h
        · exact .inr (.inr h)
termination_by a b => a.length + b.length
abbrev Asc (l : List Int) : Prop := l.Pairwise (· < ·)
theorem asc_mergeD : ∀ {a b : List Int}, Asc a → Asc b → Asc (mergeD a b)
  | [], b, _, hb => by simpa [mergeD] using hb
  | x :: a, [], ha, _ => by simpa [mergeD] using ha
  | x :: a, y :: b, ha, hb => by
    have ha' := List.pairwise_cons.1 ha
    have hb' := List.pairwise_cons.1 hb
    rcases Int.lt_trichotomy x y with h | h | h
    · rw [mergeD_lt h]
      refine List.pairwise_cons.2 ⟨fun z hz => ?_, asc_mergeD ha'.2 hb⟩
      rcases (mem_mergeD _ _ _).1 hz with h1 | h1
      · exact ha'.1 z h1
      · rcases List.mem_cons.1 h1 with rfl | h1
        · exact h
        · exact Int.lt_trans h (hb'.1 z h1)
    · subst h; rw [mergeD_eq]
      refine List.pairwise_cons.2 ⟨fun z hz => ?_, asc_mergeD ha'.2 hb'.2⟩
      rcases (mem_mergeD _ _ _).1 hz with h1 | h1
      · exact ha'.1 z h1
      · exact hb'.1 z h1
    · rw [mergeD_gt h]
      refine List.pairwise_cons.2 ⟨fun z hz => ?_, asc_mergeD ha hb'.2⟩
      rcases (mem_mergeD _ _ _).1 hz with h1 | h1
      · rcases List.mem_cons.1 h1 with rfl | h1
        · exact h
        · exact Int.lt_trans h (ha'.1 z h1)
      · exact hb'.1 z h1
termination_by a b => a.length + b.length
theorem asc_ext : ∀ {a b : List Int}, Asc a → Asc b → (∀ x, x ∈ a ↔ x ∈ b) → a = b
  | [], [], _, _, _ => rfl
  | [], y :: b, _, _, h => absurd ((h y).2 (by simp)) (by simp)
  | x :: a, [], _, _, h => absurd ((h x).1 (by simp)) (by simp)
  | x :: a, y :: b, ha, hb, h => by
    have ha' := List.pairwise_cons.1 ha
    have hb' := List.pairwise_cons.1 hb
    have e : x = y := by
      have h1 := (h x).1 (by simp)
      have h2 := (h y).2 (by simp)
      rcases List.mem_cons.1 h1 with h1 | h1
      · exact h1
      · rcases List.mem_cons.1 h2 with h2 | h2
        · exact h2.symm
        · have := hb'.1 x h1; have := ha'.1 y h2; omega
    subst e
    rw [asc_ext ha'.2 hb'.2 (fun z => ?_)]
    constructor
    · intro hz
      rcases List.mem_cons.1 ((h z).1 (by simp [hz])) with rfl | h1
      · exact absurd (ha'.1 _ hz) (by omega)
      · exact h1
    · intro hz
      rcases List.mem_cons.1 ((h z).2 (by simp [hz])) with rfl | h1
      · exact absurd (hb'.1 _ hz) (by omega)
      · exact h1
theorem mergeD_len : ∀ (a b : List Int), (mergeD a b).length ≤ a.length + b.length
  | [], b => by simp [mergeD]
  | x :: a, [] => by simp [mergeD]
  | x :: a, y :: b => by
    rcases Int.lt_trichotomy x y with h | h | h
    · rw [mergeD_lt h]; have := mergeD_len a (y :: b); simp at this ⊢; omega
    · subst h; rw [mergeD_eq]; have := mergeD_len a b; simp at this ⊢; omega
    · rw [mergeD_gt h]; have := mergeD_len (x :: a) b; simp at this ⊢; omega
termination_by a b => a.length + b.length
def dep (l : List EDeepStep) : List Int := l.map (·.1)
def upto (d : Int) : Int → Bool := fun x => decide (x ≤ d)
theorem below_upto (d : Int) : below (d + 1) = upto d := by
  funext x; unfold below upto; congr 1; apply propext; omega
/-- The weight of two lists behind a depth. -/
def mwF (a b : List EDeepStep) (d : Int) : Int := (lastW (upto d) a * lastW (upto d) b).tdiv 65536
def mstep (a b : List EDeepStep) (o : List EDeepStep) (d : Int) : List EDeepStep := if mwF a b d < lastWt o then o ++ [(d, mwF a b d)] else o
def mergeS (a b : List EDeepStep) (ds : List Int) : List EDeepStep := ds.foldl (mstep a b) []
def mergeI (a b : List EDeepStep) (ds : List Int) : List EDeepStep := ds.foldl (fun o d => deeperF o d (mwF a b d)) []
theorem mergeS_snoc (a b : List EDeepStep) (ds : List Int) (d : Int) : mergeS a b (ds ++ [d]) = mstep a b (mergeS a b ds) d := by unfold mergeS; rw [List.foldl_append]; rfl
theorem mergeI_snoc (a b : List EDeepStep) (ds : List Int) (d : Int) : mergeI a b (ds ++ [d]) = deeperF (mergeI a b ds) d (mwF a b d) := by unfold mergeI; rw [List.foldl_append]; rfl
theorem snoc_ind {P : List Int → Prop} (h0 : P []) (hs : ∀ l x, P l → P (l ++ [x])) (l : List Int) : P l := by
  have : ∀ (n : Nat) (l : List Int), l.length = n → P l := by
    intro n
    induction n with
    | zero => intro l hl; rw [List.eq_nil_of_length_eq_zero hl]; exact h0
    | succ n ih =>
      intro l hl
      have hne : l ≠ [] := by rintro rfl; cases hl
      rw [← List.dropLast_concat_getLast hne]
      exact hs _ _ (ih _ (by rw [List.length_dropLast]; omega))
  exact this _ l rfl
theorem mergeI_take (a b : List EDeepStep) (ds : List Int) : mergeI a b ds = (mergeS a b ds).take 64 := by
  induction ds using snoc_ind with
  | h0 => rfl
  | hs ds d ih =>
    rw [mergeI_snoc, mergeS_snoc, ih]
    unfold mstep deeperF
    by_cases hl : (mergeS a b ds).length < 64
    · rw [List.take_of_length_le (by omega)]
      by_cases hw : mwF a b d < lastWt (mergeS a b ds)
      · rw [if_pos hw, if_pos (by simp [hw, hl]), List.take_of_length_le (by simp; omega)]
      · rw [if_neg hw, if_neg (by simp [hw]), List.take_of_length_le (by omega)]
    · rw [if_neg (by simp; omega)]
      split
      · rw [List.take_append_of_le_length (by omega)]
      · rfl
theorem mergeS_len (a b : List EDeepStep) (ds : List Int) : (mergeS a b ds).length ≤ ds.length := by
  induction ds using snoc_ind with
  | h0 => simp [mergeS]
  | hs ds d ih =>
    rw [mergeS_snoc]; unfold mstep
    split <;> simp <;> omega
theorem upto_rng {l : List EDeepStep} (h : validDeep l = true) (d : Int) : 0 ≤ lastW (upto d) l ∧ lastW (upto d) l ≤ 65536 := by
  have := trans_rng h (d + 1)
  unfold transF at this
  rwa [if_pos h, below_upto] at this
theorem prod_rng {p q : Int} (hp : 0 ≤ p ∧ p ≤ 65536) (hq : 0 ≤ q ∧ q ≤ 65536) : 0 ≤ p * q ∧ p * q ≤ 4294967296 := by
  refine ⟨Int.mul_nonneg hp.1 hq.1, ?_⟩
  have h1 := Int.mul_le_mul hp.2 hq.2 hq.1 (by omega)
  omega
theorem mwF_rng {a b : List EDeepStep} (ha : validDeep a = true) (hb : validDeep b = true) (d : Int) : 0 ≤ mwF a b d ∧ mwF a b d ≤ 65536 := by
  have h := prod_rng (upto_rng ha d) (upto_rng hb d)
  unfold mwF
  rw [Int.tdiv_eq_ediv_of_nonneg h.1]
  omega
theorem mergeS_last {a b : List EDeepStep} (ha : validDeep a = true) (hb : validDeep b = true) (ds : List Int) : 0 ≤ lastWt (mergeS a b ds) ∧ lastWt (mergeS a b ds) ≤ 65536 := by
  induction ds using snoc_ind with
  | h0 => rw [show mergeS a b [] = [] from rfl, lastWt_nil rfl]; omega
  | hs ds d ih =>
    rw [mergeS_snoc]; unfold mstep
    split
    · rw [lastWt_snoc]; exact mwF_rng ha hb d
    · exact ih
theorem asc_dep {l : List EDeepStep} (h : validDeep l = true) : Asc (dep l) := by
  exact List.pairwise_map.2 ((validDeep_falls h).imp (fun h => h.1))
/-- The merged list. -/
def mergeF (a b : List EDeepStep) : List EDeepStep := if validDeep a && validDeep b then (mergeS a b (mergeD (dep a) (dep b))).take 64 else []
theorem compact_asc (d : Array Int) (hs : ∀ i j, i ≤ j → j < d.size → d[i]! ≤ d[j]!) : ∀ m, m ≤ d.size → Asc (Lib.compactUpTo d m) ∧ ∀ x, x ∈ Lib.compactUpTo d m ↔ ∃ j, j < m ∧ d[j]! = x
  | 0, _ => by
    rw [show Lib.compactUpTo d 0 = [] from rfl]
    exact ⟨List.Pairwise.nil, fun x => by simp⟩
  | m + 1, hm => by
    obtain ⟨h1, h2⟩ := compact_asc d hs m (by omega)
    rw [Lib.compactUpTo_succ]
    by_cases hk : Lib.keeps d m = true
    · rw [if_pos hk]
      refine ⟨List.pairwise_append.2 ⟨h1, by simp, fun x hx y hy => ?_⟩, fun x => ?_⟩
      · obtain ⟨j, hj, rfl⟩ := (h2 x).1 hx
        simp at hy; subst hy
        have hm0 : m ≠ 0 := by omega
        have hne : d[m]! ≠ d[m - 1]! := by unfold Lib.keeps at hk; simp [hm0] at hk; exact hk
        have a1 := hs j (m - 1) (by omega) (by omega)
        have a2 := hs (m - 1) m (by omega) (by omega)
        omega
      · rw [List.mem_append, h2 x]
        constructor
        · rintro (⟨j, hj, e⟩ | h)
          · exact ⟨j, by omega, e⟩
          · simp at h; exact ⟨m, by omega, h.symm⟩
        · rintro ⟨j, hj, e⟩
          by_cases hjm : j < m
          · exact .inl ⟨j, hjm, e⟩
          · obtain rfl : j = m := by omega
            exact .inr (by simp [e])
    · rw [if_neg hk, List.append_nil]
      refine ⟨h1, fun x => ?_⟩
      rw [h2 x]
      constructor
      · rintro ⟨j, hj, e⟩; exact ⟨j, by omega, e⟩
      · rintro ⟨j, hj, e⟩
        by_cases hjm : j < m
        · exact ⟨j, hjm, e⟩
        · obtain rfl : j = m := by omega
          have hm0 : j ≠ 0 := by rintro rfl; exact hk (by simp [Lib.keeps])
          have heq : d[j]! = d[j - 1]! := by
            by_cases h : d[j]! = d[j - 1]!
            · exact h
            · exact absurd (by simp [Lib.keeps, h]) hk
          exact ⟨j - 1, by omega, by rw [← heq]; exact e⟩
theorem getBang {l : List Int} {j : Nat} (h : j < l.length) : (l.toArray)[j]! = l[j] := by
  rw [getElem!_pos _ j (by simpa using h)]; simp
/-- The program's depths, sorted, each once: those of the reference. -/
theorem compact_sorted {l : List Int} {a b : List Int} (ha : Asc a) (hb : Asc b) (hl : ∀ x, x ∈ l ↔ x ∈ a ∨ x ∈ b) : Lib.compact (l.mergeSort fun x y => decide (x ≤ y)) = mergeD a b := by
  have hs : (l.mergeSort fun x y => decide (x ≤ y)).Pairwise (fun x y => decide (x ≤ y) = true) := List.pairwise_mergeSort (fun x y z h1 h2 => by simp at h1 h2 ⊢; omega) (fun x y => by simp; omega) l
  have hm : ∀ x, x ∈ (l.mergeSort fun x y => decide (x ≤ y)) ↔ x ∈ l := fun x => List.mem_mergeSort
  generalize (l.mergeSort fun x y => decide (x ≤ y)) = q at hs hm
  have hq : ∀ i j, i ≤ j → j < q.toArray.size → q.toArray[i]! ≤ q.toArray[j]! := fun i j hij hj => by
    have hj' : j < q.length := by simpa using hj
    rw [getBang (by omega), getBang hj']
    rcases Nat.lt_or_ge i j with h | h
    · have := List.pairwise_iff_getElem.1 hs i j (by omega) hj' h
      simpa using this
    · obtain rfl : i = j := by omega
      exact Int.le_refl _
  obtain ⟨h1, h2⟩ := compact_asc q.toArray hq q.length (by simp)
  refine asc_ext h1 (asc_mergeD ha hb) (fun x => ?_)
  rw [show Lib.compact q = Lib.compactUpTo q.toArray q.length from rfl] at *
  rw [h2 x, mem_mergeD, ← hl, ← hm]
  constructor
  · rintro ⟨j, hj, e⟩
    rw [getBang hj] at e
    rw [← e]; exact List.getElem_mem hj
  · intro hx
    obtain ⟨j, hj, e⟩ := List.getElem_of_mem hx
    exact ⟨j, hj, by rw [getBang hj]; exact e⟩
end Go.Proofs.Ytaeajeclbcodeaa
