/- Several texts in one: OwnP, TreeP, ProgP, NumP, TextP, CheckP. -/
import Derived.Test.YtnlbojckobgjpaaGreatDoorMgA
import Derived.Lib.Join
/- The owners of the nodes of a program, found in two ways. No program in sight. -/
set_option linter.unusedVariables false
set_option linter.unusedSimpArgs false
namespace Go.Proofs.YtnlbojckobgjpaaGreatDoor
/-- The walk down from a node. -/
def visitF (G : List (List Nat)) : Nat → Nat → Int → List Int → List Int
  | 0, _, _, o => o
  | f + 1, x, k, o => (G.getD x []).foldl (fun o a => visitF G f a k o) (o.set x k)
/-- What the walk down reaches. -/
def descF (G : List (List Nat)) : Nat → Nat → Nat → Prop
  | 0, _, _ => False
  | f + 1, x, y => y = x ∨ ∃ a, a ∈ G.getD x [] ∧ descF G f a y
theorem visitF_len (G : List (List Nat)) : ∀ f x k o, (visitF G f x k o).length = o.length
  | 0, _, _, _ => rfl
  | f + 1, x, k, o => by
    have key : ∀ (aas : List Nat) (o : List Int), (aas.foldl (fun o a => visitF G f a k o) o).length = o.length := by
      intro aas
      induction aas with
      | nil => intro o; rfl
      | cons a aas ih => intro o; rw [List.foldl_cons, ih, visitF_len G f]
    rw [visitF, key, List.length_set]
theorem visitF_at (G : List (List Nat)) : ∀ f x k o y, (descF G f x y → y < o.length → (visitF G f x k o).getD y 0 = k) ∧ (¬ descF G f x y → (visitF G f x k o).getD y 0 = o.getD y 0)
  | 0, x, k, o, y => ⟨fun h => h.elim, fun _ => rfl⟩
  | f + 1, x, k, o, y => by
    have key : ∀ (aas : List Nat) (o : List Int), ((∃ a, a ∈ aas ∧ descF G f a y) → y < o.length → (aas.foldl (fun o a => visitF G f a k o) o).getD y 0 = k) ∧ ((¬ ∃ a, a ∈ aas ∧ descF G f a y) → (aas.foldl (fun o a => visitF G f a k o) o).getD y 0 = o.getD y 0) := by
      intro aas
      induction aas with
      | nil => intro o; exact ⟨fun ⟨a, h, _⟩ => absurd h (by simp), fun _ => rfl⟩
      | cons a aas ih =>
        intro o
        rw [List.foldl_cons]
        obtain ⟨v1, v2⟩ := visitF_at G f a k o y
        obtain ⟨i1, i2⟩ := ih (visitF G f a k o)
        rw [visitF_len] at i1
        constructor
        · intro hex hy
          by_cases h : ∃ a, a ∈ aas ∧ descF G f a y
          · exact i1 h hy
          · rw [i2 h]
            obtain ⟨b, hb, hd⟩ := hex
            rcases List.mem_cons.1 hb with rfl | hb
            · exact v1 hd hy
            · exact absurd ⟨b, hb, hd⟩ h
        · intro hno
          rw [i2 (fun ⟨b, hb, hd⟩ => hno ⟨b, List.mem_cons_of_mem _ hb, hd⟩), v2 (fun hd => hno ⟨a, by simp, hd⟩)]
    obtain ⟨k1, k2⟩ := key (G.getD x []) (o.set x k)
    rw [List.length_set] at k1
    constructor
    · intro hd hy
      rw [visitF]
      by_cases h : ∃ a, a ∈ G.getD x [] ∧ descF G f a y
      · exact k1 h hy
      · rw [k2 h]
        rcases hd with rfl | hd
        · simp [List.getD, hy]
        · exact absurd hd h
    · intro hd
      rw [visitF, k2 (fun h => hd (.inr h))]
      have hne : x ≠ y := fun e => hd (.inl e.symm)
      simp [List.getD, hne]
/-- The owners by the walk down. -/
def ownTo (G : List (List Nat)) (n : Nat) (R : List Nat) : Nat → List Int
  | 0 => List.replicate n 0
  | k + 1 => visitF G n (R.getD k 0) k (ownTo G n R k)
def ownI (G : List (List Nat)) (R : List Nat) : List Int := ownTo G G.length R R.length
theorem ownTo_len (G : List (List Nat)) (n : Nat) (R : List Nat) : ∀ k, (ownTo G n R k).length = n
  | 0 => by simp [ownTo]
  | k + 1 => by rw [ownTo, visitF_len, ownTo_len G n R k]
/-- What both ways find: the owner of a root is its assignment, of an argument that of its node. -/
structure GoodOwn (G : List (List Nat)) (R : List Nat) (o : List Int) : Prop where
  len : o.length = G.length
  root : ∀ k, k < R.length → o.getD (R.getD k 0) 0 = k
  arg : ∀ i, i < G.length → ∀ a, a ∈ G.getD i [] → o.getD a 0 = o.getD i 0
/-- Arguments lie ahead of their node, each node is used once. -/
structure Tree (G : List (List Nat)) (R : List Nat) : Prop where
  down : ∀ i, i < G.length → ∀ a, a ∈ G.getD i [] → a < i
  rng : ∀ k, k < R.length → R.getD k 0 < G.length
  all : ∀ x, x < G.length → (∃ k, k < R.length ∧ R.getD k 0 = x) ∨ ∃ i, i < G.length ∧ x ∈ G.getD i []
  one : ∀ i j a, i < G.length → j < G.length → a ∈ G.getD i [] → a ∈ G.getD j [] → i = j
  roots : ∀ k l, k < R.length → l < R.length → R.getD k 0 = R.getD l 0 → k = l
  apart : ∀ k i, k < R.length → i < G.length → ¬ R.getD k 0 ∈ G.getD i []
theorem good_unique {G : List (List Nat)} {R : List Nat} (t : Tree G R) {o p : List Int} (ho : GoodOwn G R o) (hp : GoodOwn G R p) : o = p := by
  have key : ∀ d x, G.length - x ≤ d → x < G.length → o.getD x 0 = p.getD x 0 := by
    intro d
    induction d with
    | zero => intro x h1 h2; omega
    | succ d ih =>
      intro x h1 h2
      rcases t.all x h2 with ⟨k, hk, rfl⟩ | ⟨i, hi, hx⟩
      · rw [ho.root k hk, hp.root k hk]
      · have := t.down i hi x hx
        rw [ho.arg i hi x hx, hp.arg i hi x hx, ih i (by omega) hi]
  apply List.ext_getElem (by rw [ho.len, hp.len])
  intro x h1 h2
  have := key (G.length - x) x (Nat.le_refl _) (by rw [← ho.len]; exact h1)
  simpa [List.getD, h1, h2] using this
theorem descF_lt {G : List (List Nat)} {R : List Nat} (t : Tree G R) : ∀ f x y, x < G.length → descF G f x y → y ≤ x
  | 0, x, y, _, h => h.elim
  | f + 1, x, y, hx, h => by
    rcases h with rfl | ⟨a, ha, hd⟩
    · exact Nat.le_refl _
    · have h1 := t.down x hx a ha
      have h2 := descF_lt t f a y (by omega) hd
      omega
/-- Enough fuel. -/
theorem descF_arg {G : List (List Nat)} {R : List Nat} (t : Tree G R) : ∀ f x y, x < G.length → x < f → descF G f x y → ∀ a, a ∈ G.getD y [] → descF G f x a
  | 0, x, y, _, _, h => h.elim
  | f + 1, x, y, hx, hf, h => by
    intro a ha
    rcases h with rfl | ⟨b, hb, hd⟩
    · refine .inr ⟨a, ha, ?_⟩
      have := t.down y hx a ha
      match f, (show a < f by omega) with
      | f + 1, _ => exact .inl rfl
    · have h1 := t.down x hx b hb
      exact .inr ⟨b, hb, descF_arg t f b y (by omega) (by omega) hd a ha⟩
theorem descF_up {G : List (List Nat)} {R : List Nat} (t : Tree G R) : ∀ f x y, x < G.length → descF G f x y → y ≠ x → ∃ i, i < G.length ∧ y ∈ G.getD i [] ∧ descF G f x i
  | 0, x, y, _, h, _ => h.elim
  | f + 1, x, y, hx, h, hne => by
    rcases h with rfl | ⟨a, ha, hd⟩
    · exact absurd rfl hne
    · have h1 := t.down x hx a ha
      by_cases e : y = a
      · subst e; exact ⟨x, hx, ha, .inl rfl⟩
      · obtain ⟨i, hi, hy, hdi⟩ := descF_up t f a y (by omega) hd e
        exact ⟨i, hi, hy, .inr ⟨a, ha, hdi⟩⟩
theorem ownI_good {G : List (List Nat)} {R : List Nat} (t : Tree G R) : GoodOwn G R (ownI G R) := by
  refine ⟨ownTo_len _ _ _ _, ?_, ?_⟩
  · -- a root keeps what its own walk has given it
    have key : ∀ m, m ≤ R.length → ∀ k, k < m → (ownTo G G.length R m).getD (R.getD k 0) 0 = k := by
      intro m
      induction m with
      | zero => intro _ k hk; omega
      | succ m ih =>
        intro hm k hk
        obtain ⟨v1, v2⟩ := visitF_at G G.length (R.getD m 0) m (ownTo G G.length R m) (R.getD k 0)
        rw [ownTo_len] at v1
        rw [ownTo]
        by_cases e : k = m
        · subst e
          refine v1 ?_ (t.rng k (by omega))
          have := t.rng k (by omega)
          match h : G.length, this with
          | n + 1, _ => exact .inl rfl
        · rw [v2 ?_]
          · exact ih (by omega) k (by omega)
          · intro hd
            have hne : R.getD k 0 ≠ R.getD m 0 := fun h => e (t.roots k m (by omega) (by omega) h)
            obtain ⟨i, hi, hy, _⟩ := descF_up t _ _ _ (t.rng m (by omega)) hd hne
            exact t.apart k i (by omega) hi hy
    exact key R.length (Nat.le_refl _)
  · intro i hi a ha
    have hai := t.down i hi a ha
    have key : ∀ m, m ≤ R.length → (ownTo G G.length R m).getD a 0 = (ownTo G G.length R m).getD i 0 := by
      intro m
      induction m with
      | zero => intro _; simp [ownTo, List.getD, hi, show a < G.length by omega]
      | succ m ih =>
        intro hm
        obtain ⟨v1, v2⟩ := visitF_at G G.length (R.getD m 0) m (ownTo G G.length R m) a
        obtain ⟨u1, u2⟩ := visitF_at G G.length (R.getD m 0) m (ownTo G G.length R m) i
        rw [ownTo_len] at v1 u1
        have hr := t.rng m (by omega)
        rw [ownTo]
        by_cases hd : descF G G.length (R.getD m 0) i
        · rw [u1 hd hi, v1 (descF_arg t _ _ _ hr hr hd a ha) (by omega)]
        · rw [u2 hd, v2 ?_, ih (by omega)]
          intro hda
          have hne : a ≠ R.getD m 0 := fun e => t.apart m i (by omega) hi (e ▸ ha)
          obtain ⟨j, hj, hy, hdj⟩ := descF_up t _ _ _ hr hda hne
          exact hd (t.one i j a hi hj ha hy ▸ hdj)
    exact key R.length (Nat.le_refl _)
/-- The owners from above downwards. -/
def setAll (aas : List Nat) (k : Int) (o : List Int) : List Int := aas.foldl (fun o a => o.set a k) o
def rootsTo (n : Nat) (R : List Nat) : Nat → List Int
  | 0 => List.replicate n 0
  | k + 1 => (rootsTo n R k).set (R.getD k 0) k
/-- j nodes from above are done. -/
def downTo (G : List (List Nat)) (o : List Int) : Nat → List Int
  | 0 => o
  | j + 1 => let p := downTo G o j; let i := G.length - 1 - j; setAll (G.getD i []) (p.getD i 0) p
def ownS (G : List (List Nat)) (R : List Nat) : List Int := downTo G (rootsTo G.length R R.length) G.length
theorem setAll_len (aas : List Nat) (k : Int) : ∀ o, (setAll aas k o).length = o.length := by
  induction aas with
  | nil => intro o; rfl
  | cons a aas ih => intro o; show (setAll aas k (o.set a k)).length = _; rw [ih, List.length_set]
theorem setAll_at (aas : List Nat) (k : Int) (y : Nat) : ∀ o : List Int, (y ∈ aas → y < o.length → (setAll aas k o).getD y 0 = k) ∧ (¬ y ∈ aas → (setAll aas k o).getD y 0 = o.getD y 0) := by
  induction aas with
  | nil => intro o; exact ⟨fun h => absurd h (by simp), fun _ => rfl⟩
  | cons a aas ih =>
    intro o
    obtain ⟨i1, i2⟩ := ih (o.set a k)
    rw [List.length_set] at i1
    constructor
    · intro hm hy
      show (setAll aas k (o.set a k)).getD y 0 = k
      by_cases h : y ∈ aas
      · exact i1 h hy
      · rw [i2 h]
        have e : y = a := (List.mem_cons.1 hm).elim id (fun h' => absurd h' h)
        subst e; simp [List.getD, hy]
    · intro hm
      show (setAll aas k (o.set a k)).getD y 0 = _
      rw [i2 (fun h => hm (List.mem_cons_of_mem _ h))]
      have hne : a ≠ y := fun e => hm (e ▸ List.mem_cons_self)
      simp [List.getD, hne]
theorem rootsTo_len (n : Nat) (R : List Nat) : ∀ k, (rootsTo n R k).length = n
  | 0 => by simp [rootsTo]
  | k + 1 => by rw [rootsTo, List.length_set, rootsTo_len n R k]
theorem downTo_len (G : List (List Nat)) (o : List Int) : ∀ j, (downTo G o j).length = o.length
  | 0 => rfl
  | j + 1 => by show (setAll _ _ _).length = _; rw [setAll_len, downTo_len G o j]
theorem ownS_good {G : List (List Nat)} {R : List Nat} (t : Tree G R) : GoodOwn G R (ownS G R) := by
  have hr : ∀ m, m ≤ R.length → ∀ k, k < m → (rootsTo G.length R m).getD (R.getD k 0) 0 = k := by
    intro m
    induction m with
    | zero => intro _ k hk; omega
    | succ m ih =>
      intro hm k hk
      rw [rootsTo]
      by_cases e : k = m
      · subst e
        have := t.rng k (by omega)
        simp only [List.getD]
        rw [List.getElem?_set_self (by rw [rootsTo_len]; exact this)]; rfl
      · have hne : R.getD m 0 ≠ R.getD k 0 := fun h => e (t.roots k m (by omega) (by omega) h.symm)
        have := ih (by omega) k (by omega)
        rw [List.getD_eq_getElem?_getD, List.getElem?_set_ne hne, ← List.getD_eq_getElem?_getD]; exact this
  have key : ∀ j, j ≤ G.length → (∀ k, k < R.length → (downTo G (rootsTo G.length R R.length) j).getD (R.getD k 0) 0 = k) ∧ (∀ i, i < G.length → G.length - j ≤ i → ∀ a, a ∈ G.getD i [] → (downTo G (rootsTo G.length R R.length) j).getD a 0 = (downTo G (rootsTo G.length R R.length) j).getD i 0) := by
    intro j
    induction j with
    | zero => intro _; exact ⟨hr _ (Nat.le_refl _), fun i h1 h2 => by omega⟩
    | succ j ih =>
      intro hj
      obtain ⟨i1, i2⟩ := ih (by omega)
      have hlen : (downTo G (rootsTo G.length R R.length) j).length = G.length := by rw [downTo_len, rootsTo_len]
      generalize hp : downTo G (rootsTo G.length R R.length) j = p at *
      have he : downTo G (rootsTo G.length R R.length) (j + 1) = setAll (G.getD (G.length - 1 - j) []) (p.getD (G.length - 1 - j) 0) p := by rw [downTo, hp]
      rw [he]
      have hi0 : G.length - 1 - j < G.length := by omega
      generalize hi : G.length - 1 - j = i0 at *
      constructor
      · intro k hk
        rw [(setAll_at _ _ _ p).2 (t.apart k i0 hk hi0)]; exact i1 k hk
      · intro i h1 h2 a ha
        have hda := t.down i h1 a ha
        have hni : ¬ i ∈ G.getD i0 [] := fun h => by have := t.down i0 hi0 i h; omega
        rw [(setAll_at _ _ i p).2 hni]
        by_cases e : i = i0
        · subst e
          exact (setAll_at _ _ a p).1 ha (by omega)
        · have hna : ¬ a ∈ G.getD i0 [] := fun h => e (t.one i i0 a h1 hi0 ha h)
          rw [(setAll_at _ _ a p).2 hna]
          exact i2 i h1 (by omega) a ha
  refine ⟨by show (downTo _ _ _).length = _; rw [downTo_len, rootsTo_len], (key G.length (Nat.le_refl _)).1, fun i hi a ha => (key G.length (Nat.le_refl _)).2 i hi (by omega) a ha⟩
theorem owners_eq {G : List (List Nat)} {R : List Nat} (t : Tree G R) : ownI G R = ownS G R := good_unique t (ownI_good t) (ownS_good t)
end Go.Proofs.YtnlbojckobgjpaaGreatDoor

/- A program whose nodes are each used once is a tree. No program in sight. -/
namespace Go.Proofs.YtnlbojckobgjpaaGreatDoor
theorem getD_at {α : Type} {l : List α} {i : Nat} {d : α} (h : i < l.length) : l.getD i d = l[i] := by simp [List.getD, h]
theorem Tree.of_count {G : List (List Nat)} {R : List Nat} (hd : ∀ i, i < G.length → ∀ a, a ∈ G.getD i [] → a < i) (hr : ∀ k, k < R.length → R.getD k 0 < G.length)
    (hc : ∀ x, x < G.length → (G.flatten ++ R).count x = 1) : Tree G R := by
  have hlt : ∀ x, x ∈ G.flatten ++ R → x < G.length := by
    intro x hx
    rcases List.mem_append.1 hx with h | h
    · obtain ⟨l, hl, hx⟩ := List.mem_flatten.1 h
      obtain ⟨i, hi, rfl⟩ := List.mem_iff_getElem.1 hl
      have := hd i hi x (by rw [getD_at hi]; exact hx)
      omega
    · obtain ⟨k, hk, rfl⟩ := List.mem_iff_getElem.1 h
      have := hr k hk
      rwa [getD_at hk] at this
  have hn : (G.flatten ++ R).Nodup := by
    rw [List.nodup_iff_count]
    intro x
    by_cases h : x ∈ G.flatten ++ R
    · rw [hc x (hlt x h)]; exact Nat.le_refl _
    · rw [List.count_eq_zero.2 h]; omega
  obtain ⟨n1, n2, n3⟩ := List.nodup_append.1 hn
  have n4 := (List.pairwise_flatten.1 n1).2
  refine ⟨hd, hr, fun x hx => ?_, fun i j a hi hj ha hb => ?_, fun k l hk hl e => ?_, fun k i hk hi hm => ?_⟩
  · have hm : x ∈ G.flatten ++ R := List.count_pos_iff.1 (by rw [hc x hx]; omega)
    rcases List.mem_append.1 hm with h | h
    · obtain ⟨l, hl, hx⟩ := List.mem_flatten.1 h
      obtain ⟨i, hi, rfl⟩ := List.mem_iff_getElem.1 hl
      exact .inr ⟨i, hi, by rw [getD_at hi]; exact hx⟩
    · obtain ⟨k, hk, rfl⟩ := List.mem_iff_getElem.1 h
      exact .inl ⟨k, hk, getD_at hk⟩
  · rw [getD_at hi] at ha
    rw [getD_at hj] at hb
    rcases Nat.lt_trichotomy i j with h | h | h
    · exact absurd rfl (List.pairwise_iff_getElem.1 n4 i j hi hj h a ha a hb)
    · exact h
    · exact absurd rfl (List.pairwise_iff_getElem.1 n4 j i hj hi h a hb a ha)
  · rw [getD_at hk, getD_at hl] at e
    rcases Nat.lt_trichotomy k l with h | h | h
    · exact absurd e (List.pairwise_iff_getElem.1 n2 k l hk hl h)
    · exact h
    · exact absurd e.symm (List.pairwise_iff_getElem.1 n2 l k hl hk h)
  · rw [getD_at hk] at hm
    rw [getD_at hi] at hm
    exact n3 _ (List.mem_flatten.2 ⟨_, List.getElem_mem hi, hm⟩) _ (List.getElem_mem hk) rfl
end Go.Proofs.YtnlbojckobgjpaaGreatDoor

/- Programs of the shading language: when they are valid, when they pass the checks. No machine in sight. -/
namespace Go.Proofs.YtnlbojckobgjpaaGreatDoor
open Go.RowKit
def letterB (b : UInt8) : Bool := decide (97 ≤ b.toNat ∧ b.toNat ≤ 122)
def digitB (b : UInt8) : Bool := decide (48 ≤ b.toNat ∧ b.toNat ≤ 57)
/-- The first k bytes are aas an identifier's. -/
def identTo (l : List UInt8) (k : Nat) : Bool := (l.take k).zipIdx.all fun x => letterB x.1 || (digitB x.1 && decide (x.2 ≠ 0))
def isIdent (l : List UInt8) : Bool := identTo l l.length && decide (1 ≤ l.length ∧ l.length ≤ 8)
theorem identTo_succ {l : List UInt8} {k : Nat} (h : k < l.length) : identTo l (k + 1) = (identTo l k && (letterB l[k] || (digitB l[k] && decide (k ≠ 0)))) := by
  unfold identTo
  rw [List.take_succ_eq_append_getElem h, List.zipIdx_append, List.all_append]
  simp [List.length_take, Nat.min_eq_left (Nat.le_of_lt h)]
theorem identTo_mono {l : List UInt8} {k m : Nat} (hkm : k ≤ m) (hm : m ≤ l.length) (h : identTo l m = true) : identTo l k = true := by
  induction m with
  | zero => obtain rfl : k = 0 := by omega
            exact h
  | succ m ih =>
    by_cases e : k = m + 1
    · subst e; exact h
    · rw [identTo_succ (by omega)] at h
      simp only [Bool.and_eq_true] at h
      exact ih (by omega) (by omega) h.1
theorem isIdent_no {l : List UInt8} {k : Nat} (hk : k < l.length) (h : (letterB l[k] || (digitB l[k] && decide (k ≠ 0))) = false) : isIdent l = false := by
  cases hi : isIdent l
  · rfl
  · unfold isIdent at hi
    simp only [Bool.and_eq_true] at hi
    have h1 := identTo_mono (show k + 1 ≤ l.length by omega) (Nat.le_refl _) hi.1
    rw [identTo_succ hk, h] at h1
    simp at h1
def namedOp (op : Int) : Bool := decide (op = 2) || decide (op = 8)
def okShape (op : Int) (n : Nat) : Bool := if op = 1 ∨ op = 2 then decide (n = 0) else if op = 3 then decide (n = 1) else if 4 ≤ op ∧ op ≤ 7 then decide (n = 2) else if op = 8 then decide (n ≤ 3) else false
def okFields (x : ENode) : Bool := (if namedOp x.1 then isIdent x.2.1 else decide (x.2.1 = [])) && (if x.1 = 1 then inB x.2.2.1 0 2559999 else decide (x.2.2.1 = 0)) && okShape x.1 x.2.2.2.length
def argsOk (k : Nat) (l : List Int) : Bool := l.all fun a => inB a 0 ((k : Int) - 1)
def okNode (k : Nat) (x : ENode) : Bool := okFields x && argsOk k x.2.2.2
def okAssign (n : Nat) (x : EAssign) : Bool := isIdent x.1 && inB x.2 0 ((n : Int) - 1)
def gOfP (p : EProg) : List (List Nat) := p.1.map fun x => x.2.2.2.map Int.toNat
def rOfP (p : EProg) : List Nat := p.2.map fun x => x.2.toNat
/-- How often a node is used. -/
def usesP (p : EProg) : List Nat := (gOfP p).flatten ++ rOfP p
def nodesTo (p : EProg) (k : Nat) : Bool := (p.1.take k).zipIdx.all fun x => okNode x.2 x.1
def assignsTo (p : EProg) (k : Nat) : Bool := (p.2.take k).all (okAssign p.1.length)
def validP (p : EProg) : Bool := decide (p.1.length ≤ 60) && nodesTo p p.1.length && assignsTo p p.2.length && (List.range p.1.length).all fun x => (usesP p).count x == 1
theorem nodesTo_succ {p : EProg} {k : Nat} (h : k < p.1.length) : nodesTo p (k + 1) = (nodesTo p k && okNode k p.1[k]) := by
  unfold nodesTo
  rw [List.take_succ_eq_append_getElem h, List.zipIdx_append, List.all_append]
  simp [List.length_take, Nat.min_eq_left (Nat.le_of_lt h)]
theorem assignsTo_succ {p : EProg} {k : Nat} (h : k < p.2.length) : assignsTo p (k + 1) = (assignsTo p k && okAssign p.1.length p.2[k]) := by
  unfold assignsTo
  rw [List.take_succ_eq_append_getElem h, List.all_append]; simp
theorem nodesTo_at {p : EProg} {k : Nat} (h : nodesTo p p.1.length = true) (hk : k < p.1.length) : okNode k p.1[k] = true := by
  unfold nodesTo at h
  rw [List.take_length, List.all_eq_true] at h
  exact h (p.1[k], k) (List.mk_mem_zipIdx_iff_getElem?.2 (List.getElem?_eq_getElem hk))
theorem assignsTo_at {p : EProg} {k : Nat} (h : assignsTo p p.2.length = true) (hk : k < p.2.length) : okAssign p.1.length p.2[k] = true := by
  unfold assignsTo at h
  rw [List.take_length, List.all_eq_true] at h
  exact h _ (List.getElem_mem hk)
theorem args_lt {p : EProg} (h : nodesTo p p.1.length = true) {i : Nat} (hi : i < p.1.length) : ∀ a, a ∈ (gOfP p).getD i [] → a < i := by
  intro a ha
  rw [getD_at (by unfold gOfP; simpa using hi)] at ha
  simp only [gOfP, List.getElem_map, List.mem_map] at ha
  obtain ⟨z, hz, rfl⟩ := ha
  have h1 := nodesTo_at h hi
  unfold okNode argsOk at h1
  simp only [Bool.and_eq_true, List.all_eq_true] at h1
  have := inB_true (h1.2 z hz)
  omega
theorem validP_tree {p : EProg} (h : validP p = true) : Tree (gOfP p) (rOfP p) := by
  unfold validP at h
  simp only [Bool.and_eq_true, List.all_eq_true, List.mem_range, beq_iff_eq] at h
  obtain ⟨⟨⟨_, h1⟩, h2⟩, h3⟩ := h
  have hl : (gOfP p).length = p.1.length := by simp [gOfP]
  refine Tree.of_count (fun i hi a ha => args_lt h1 (by omega) a ha) (fun k hk => ?_) (fun x hx => h3 x (by omega))
  have hk' : k < p.2.length := by unfold rOfP at hk; simpa using hk
  have h4 := assignsTo_at h2 hk'
  unfold okAssign at h4
  simp only [Bool.and_eq_true] at h4
  have := inB_true h4.2
  rw [getD_at hk, hl]
  simp only [rOfP, List.getElem_map]
  omega
end Go.Proofs.YtnlbojckobgjpaaGreatDoor

/- Numbers with a fraction, in plain Lean: the shortest text of n / 256. -/
namespace Go.Proofs.YtnlbojckobgjpaaGreatDoor
open Go.Lib
/-- The fraction's digits, k of them, tell the rest. -/
def fracOk (r k : Nat) : Bool := decide ((r * 10 ^ k + 255) / 256 < 10 ^ k) && decide ((r * 10 ^ k + 255) / 256 * 256 / 10 ^ k = r)
theorem fracOk_3 {r : Nat} (h : r < 256) : fracOk r 3 = true := by
  unfold fracOk
  simp only [Bool.and_eq_true, decide_eq_true_eq]
  omega
/-- How many digits. -/
def fracLen (r : Nat) : Nat := if fracOk r 1 then 1 else if fracOk r 2 then 2 else 3
theorem fracLen_ok {r : Nat} (h : r < 256) : fracOk r (fracLen r) = true := by
  unfold fracLen
  split
  · assumption
  · split
    · assumption
    · exact fracOk_3 h
theorem fracLen_rng (r : Nat) : 1 ≤ fracLen r ∧ fracLen r ≤ 3 := by
  unfold fracLen; split
  · omega
  · split <;> omega
theorem fracLen_least {r k : Nat} (h1 : 1 ≤ k) (h2 : k < fracLen r) : fracOk r k = false := by
  unfold fracLen at h2
  split at h2
  · omega
  · next h =>
    split at h2
    · obtain rfl : k = 1 := by omega
      simpa using h
    · next h' =>
      rcases (show k = 1 ∨ k = 2 by omega) with rfl | rfl
      · simpa using h
      · simpa using h'
def fracNum (r : Nat) : Nat := (r * 10 ^ fracLen r + 255) / 256
theorem fracNum_lt {r : Nat} (h : r < 256) : fracNum r < 10 ^ fracLen r := by
  have := fracLen_ok h
  unfold fracOk at this
  simp only [Bool.and_eq_true, decide_eq_true_eq] at this
  exact this.1
theorem decDigits_len_le : ∀ (k u : Nat), 1 ≤ k → u < 10 ^ k → (decDigits u).length ≤ k
  | 0, _, h, _ => by omega
  | k + 1, u, _, h => by
    rw [decDigits]
    split
    · simp
    · next h10 =>
      rcases Nat.eq_zero_or_pos k with rfl | hk
      · simp at h; omega
      · rw [List.length_append]
        have := decDigits_len_le k (u / 10) hk (by rw [Nat.pow_succ] at h; omega)
        simp; omega
/-- The fraction's text. -/
def fracT (r : Nat) : List UInt8 := List.replicate (fracLen r - (decDigits (fracNum r)).length) 48 ++ decDigits (fracNum r)
theorem fracT_len {r : Nat} (h : r < 256) : (fracT r).length = fracLen r := by
  have h1 := decDigits_len_le (fracLen r) (fracNum r) (fracLen_rng r).1 (fracNum_lt h)
  unfold fracT
  rw [List.length_append, List.length_replicate]
  omega
/-- The text of a number token. -/
def numF (n : Int) : List UInt8 := if 0 ≤ n ∧ n ≤ 2559999 then (if n % 256 = 0 then decDigits (n / 256).toNat else decDigits (n / 256).toNat ++ 46 :: fracT (n % 256).toNat) else []
end Go.Proofs.YtnlbojckobgjpaaGreatDoor

/- The text of a program of the shading language. No machine in sight. -/
namespace Go.Proofs.YtnlbojckobgjpaaGreatDoor
open Go.RowKit Go.Lib
def opB (op : Int) : UInt8 := if op = 4 then 43 else if op = 5 then 45 else if op = 6 then 42 else 47
/-- The text of a node whose arguments' texts are ts. -/
def nodeT (x : ENode) (ts : List (List UInt8)) : List UInt8 :=
  if x.1 = 1 then numF x.2.2.1 else if x.1 = 2 then x.2.1 else if x.1 = 3 then [40, 45] ++ ts.getD 0 [] ++ [41]
  else if x.1 = 8 then x.2.1 ++ [40] ++ join ts [44, 32] ++ [41]
  else [40] ++ ts.getD 0 [] ++ [32] ++ [opB x.1] ++ [32] ++ ts.getD 1 [] ++ [41]
def textF (p : EProg) : Nat → Nat → List UInt8
  | 0, _ => []
  | f + 1, k => match p.1[k]? with
    | none => []
    | some x => nodeT x (x.2.2.2.map fun (a : Int) => textF p f a.toNat)
def textP (p : EProg) (k : Nat) : List UInt8 := textF p (k + 1) k
theorem node_args {p : EProg} (h : nodesTo p p.1.length = true) {k : Nat} (hk : k < p.1.length) : ∀ a ∈ p.1[k].2.2.2, 0 ≤ a ∧ a < k := by
  intro a ha
  have h1 := nodesTo_at h hk
  unfold okNode argsOk at h1
  simp only [Bool.and_eq_true, List.all_eq_true] at h1
  have := inB_true (h1.2 a ha)
  omega
theorem textF_fuel {p : EProg} (h : nodesTo p p.1.length = true) : ∀ f k, k < f → textF p f k = textP p k := by
  intro f
  induction f using Nat.strongRecOn with
  | ind f ih =>
    intro k hkf
    unfold textP
    obtain ⟨g, rfl⟩ : ∃ g, f = g + 1 := ⟨f - 1, by omega⟩
    show (match p.1[k]? with | none => [] | some x => nodeT x (x.2.2.2.map fun (a : Int) => textF p g a.toNat)) = (match p.1[k]? with | none => [] | some x => nodeT x (x.2.2.2.map fun (a : Int) => textF p k a.toNat))
    rcases Nat.lt_or_ge k p.1.length with hk | hk
    · rw [List.getElem?_eq_getElem hk]
      show nodeT p.1[k] _ = nodeT p.1[k] _
      congr 1
      apply List.map_congr_left
      intro a ha
      have := node_args h hk a ha
      rw [ih g (by omega) _ (by omega)]
      by_cases e : k = g + 1
      · omega
      · rw [ih k (by omega) _ (by omega)]
    · rw [List.getElem?_eq_none hk]
theorem textP_eq {p : EProg} (h : nodesTo p p.1.length = true) {k : Nat} (hk : k < p.1.length) : textP p k = nodeT p.1[k] (p.1[k].2.2.2.map fun (a : Int) => textP p a.toNat) := by
  show (match p.1[k]? with | none => [] | some x => nodeT x (x.2.2.2.map fun (a : Int) => textF p k a.toNat)) = _
  rw [List.getElem?_eq_getElem hk]
  show nodeT p.1[k] _ = nodeT p.1[k] _
  congr 1
  apply List.map_congr_left
  intro a ha
  have := node_args h hk a ha
  exact textF_fuel h _ _ (by omega)
/-! How long. -/
def sizeG (G : List (List Nat)) : Nat → Nat → Nat
  | 0, _ => 0
  | f + 1, k => 14 + ((G.getD k []).map (sizeG G f)).sum
def sizeN (G : List (List Nat)) (k : Nat) : Nat := sizeG G (k + 1) k
theorem map_sum_congr {l : List Nat} {f g : Nat → Nat} (h : ∀ a ∈ l, f a = g a) : (l.map f).sum = (l.map g).sum := by rw [List.map_congr_left h]
theorem sizeG_fuel {G : List (List Nat)} (hG : ∀ k a, a ∈ G.getD k [] → a < k) : ∀ f k, k < f → sizeG G f k = sizeN G k := by
  intro f
  induction f using Nat.strongRecOn with
  | ind f ih =>
    intro k hkf
    unfold sizeN
    obtain ⟨g, rfl⟩ : ∃ g, f = g + 1 := ⟨f - 1, by omega⟩
    show 14 + ((G.getD k []).map (sizeG G g)).sum = 14 + ((G.getD k []).map (sizeG G k)).sum
    congr 1
    apply map_sum_congr
    intro a ha
    have := hG k a ha
    rw [ih g (by omega) _ (by omega)]
    by_cases e : k = g + 1
    · omega
    · rw [ih k (by omega) _ (by omega)]
theorem sizeN_eq {G : List (List Nat)} (hG : ∀ k a, a ∈ G.getD k [] → a < k) (k : Nat) : sizeN G k = 14 + ((G.getD k []).map (sizeN G)).sum := by
  show 14 + ((G.getD k []).map (sizeG G k)).sum = _
  congr 1
  apply map_sum_congr
  intro a ha
  exact sizeG_fuel hG _ _ (by have := hG k a ha; omega)
theorem mem_le_sum {l : List Nat} {f : Nat → Nat} {a : Nat} (h : a ∈ l) : f a ≤ (l.map f).sum := by
  induction l with
  | nil => cases h
  | cons b t ih =>
    rw [List.map_cons, List.sum_cons]
    rcases List.mem_cons.1 h with rfl | h
    · omega
    · have := ih h; omega
theorem flat_sum (f : Nat → Nat) : ∀ G : List (List Nat), (G.flatten.map f).sum = (G.map fun l => (l.map f).sum).sum := by
  intro G
  induction G with
  | nil => rfl
  | cons a t ih => rw [List.flatten_cons, List.map_append, List.sum_append, ih, List.map_cons, List.sum_cons]
theorem range_sum_getD (G : List (List Nat)) (f : List Nat → Nat) : ((List.range G.length).map fun i => f (G.getD i [])).sum = (G.map f).sum := by
  have : (List.range G.length).map (fun i => f (G.getD i [])) = G.map f := by
    apply List.ext_getElem
    · simp
    · intro i h1 h2
      have hi : i < G.length := by simpa using h2
      rw [List.getElem_map, List.getElem_map, List.getElem_range, getD_at hi]
  rw [this]
theorem const_sum (n : Nat) (g : Nat → Nat) : ((List.range n).map fun i => 14 + g i).sum = 14 * n + ((List.range n).map g).sum := by
  induction n with
  | zero => rfl
  | succ n ih =>
    rw [List.range_succ, List.map_append, List.map_append, List.sum_append, List.sum_append, ih]
    simp; omega
theorem sum_perm {l m : List Nat} (h : l.Perm m) : l.sum = m.sum := by
  induction h with
  | nil => rfl
  | cons x _ ih => rw [List.sum_cons, List.sum_cons, ih]
  | swap x y l => simp only [List.sum_cons]; omega
  | trans _ _ h1 h2 => exact h1.trans h2
/-- The roots' trees share the nodes out. -/
theorem roots_sum {G : List (List Nat)} {R : List Nat} (hG : ∀ k a, a ∈ G.getD k [] → a < k) (hp : (G.flatten ++ R).Perm (List.range G.length)) : (R.map (sizeN G)).sum = 14 * G.length := by
  have h1 := sum_perm (hp.map (sizeN G))
  rw [List.map_append, List.sum_append, flat_sum] at h1
  have h2 : ((List.range G.length).map (sizeN G)).sum = 14 * G.length + ((List.range G.length).map fun i => ((G.getD i []).map (sizeN G)).sum).sum := by
    rw [← const_sum]
    congr 1
    apply List.map_congr_left
    intro i _
    exact sizeN_eq hG i
  rw [range_sum_getD G (fun l => (l.map (sizeN G)).sum)] at h2
  omega
theorem count_range (x : Nat) : ∀ n, (List.range n).count x = if x < n then 1 else 0
  | 0 => by simp
  | n + 1 => by
    rw [List.range_succ, List.count_append, count_range x n, List.count_cons, List.count_nil]
    by_cases h : x = n
    · subst h; simp
    · have : ¬ n = x := fun e => h e.symm
      simp only [beq_iff_eq, this, if_false]
      by_cases h2 : x < n
      · rw [if_pos h2, if_pos (by omega)]
      · rw [if_neg h2, if_neg (by omega)]
theorem perm_of_count {l : List Nat} {n : Nat} (h : ∀ x, x < n → l.count x = 1) (hl : ∀ x ∈ l, x < n) : l.Perm (List.range n) := by
  rw [List.perm_iff_count]
  intro x
  by_cases hx : x < n
  · rw [h x hx, count_range, if_pos hx]
  · rw [List.count_eq_zero.2 (fun hm => hx (hl x hm)), List.count_eq_zero.2 (fun hm => hx (List.mem_range.1 hm))]
section
variable {p : EProg}
theorem valid_len (h : validP p = true) : p.1.length ≤ 60 := by
  unfold validP at h
  simp only [Bool.and_eq_true, decide_eq_true_eq] at h
  exact h.1.1.1
theorem valid_nodes (h : validP p = true) : nodesTo p p.1.length = true := by
  unfold validP at h
  simp only [Bool.and_eq_true] at h
  exact h.1.1.2
theorem valid_assigns (h : validP p = true) : assignsTo p p.2.length = true := by
  unfold validP at h
  simp only [Bool.and_eq_true] at h
  exact h.1.2
theorem gOfP_len : (gOfP p).length = p.1.length := by simp [gOfP]
theorem valid_down (h : nodesTo p p.1.length = true) : ∀ k a, a ∈ (gOfP p).getD k [] → a < k := by
  intro k a ha
  rcases Nat.lt_or_ge k p.1.length with hk | hk
  · exact args_lt h hk a ha
  · rw [List.getD_eq_getElem?_getD, List.getElem?_eq_none (by rw [gOfP_len]; exact hk)] at ha
    cases ha
theorem valid_root (h : validP p = true) {k : Nat} (hk : k < p.2.length) : isIdent p.2[k].1 = true ∧ 0 ≤ p.2[k].2 ∧ p.2[k].2 < p.1.length := by
  have h4 := assignsTo_at (valid_assigns h) hk
  unfold okAssign at h4
  simp only [Bool.and_eq_true] at h4
  have := inB_true h4.2
  exact ⟨h4.1, by omega, by omega⟩
theorem valid_perm (h : validP p = true) : ((gOfP p).flatten ++ rOfP p).Perm (List.range (gOfP p).length) := by
  rw [gOfP_len]
  have h0 := h
  unfold validP at h
  simp only [Bool.and_eq_true, List.all_eq_true, List.mem_range, beq_iff_eq] at h
  refine perm_of_count (fun x hx => h.2 x hx) (fun x hx => ?_)
  rcases List.mem_append.1 hx with hx | hx
  · obtain ⟨l, hl, hxl⟩ := List.mem_flatten.1 hx
    obtain ⟨i, hi, rfl⟩ := List.getElem_of_mem hl
    have := args_lt (valid_nodes h0) (i := i) (by rw [gOfP_len] at hi; exact hi) x (by rw [getD_at hi]; exact hxl)
    rw [gOfP_len] at hi
    omega
  · obtain ⟨i, hi, rfl⟩ := List.getElem_of_mem hx
    have hi' : i < p.2.length := by unfold rOfP at hi; simpa using hi
    have := valid_root h0 hi'
    simp only [rOfP, List.getElem_map]
    omega
theorem size_le (h : validP p = true) : ∀ d k, k + d = p.1.length → k < p.1.length → sizeN (gOfP p) k ≤ 840 := by
  have hp := valid_perm h
  have hd := valid_down (valid_nodes h)
  have hr := roots_sum hd hp
  rw [gOfP_len] at hr
  have hl := valid_len h
  intro d
  induction d using Nat.strongRecOn with
  | ind d ih =>
    intro k hkd hk
    have hm : k ∈ (gOfP p).flatten ++ rOfP p := hp.mem_iff.2 (List.mem_range.2 (by rw [gOfP_len]; exact hk))
    rcases List.mem_append.1 hm with hm | hm
    · obtain ⟨l, hl2, hxl⟩ := List.mem_flatten.1 hm
      obtain ⟨i, hi, rfl⟩ := List.getElem_of_mem hl2
      have hxl' : k ∈ (gOfP p).getD i [] := by rw [getD_at hi]; exact hxl
      have hlt := hd i k hxl'
      rw [gOfP_len] at hi
      have h1 := ih (d - (i - k)) (by omega) i (by omega) hi
      rw [sizeN_eq hd i] at h1
      have := mem_le_sum (f := sizeN (gOfP p)) hxl'
      omega
    · have := mem_le_sum (f := sizeN (gOfP p)) hm
      omega
theorem ident_len {l : List UInt8} (h : isIdent l = true) : 1 ≤ l.length ∧ l.length ≤ 8 := by
  unfold isIdent at h
  simp only [Bool.and_eq_true, decide_eq_true_eq] at h
  exact h.2
theorem node_name (h : validP p = true) {k : Nat} (hk : k < p.1.length) : p.1[k].2.1.length ≤ 8 := by
  have h1 := nodesTo_at (valid_nodes h) hk
  unfold okNode okFields at h1
  simp only [Bool.and_eq_true] at h1
  have h2 := h1.1.1.1
  split at h2
  · exact (ident_len h2).2
  · rw [of_decide_eq_true h2]; simp
theorem node_shape (h : validP p = true) {k : Nat} (hk : k < p.1.length) : okShape p.1[k].1 p.1[k].2.2.2.length = true := by
  have h1 := nodesTo_at (valid_nodes h) hk
  unfold okNode okFields at h1
  simp only [Bool.and_eq_true] at h1
  exact h1.1.2
theorem numF_len (n : Int) : (numF n).length ≤ 14 := by
  unfold numF
  split
  · next h =>
    have h1 : (decDigits (n / 256).toNat).length ≤ 4 := decDigits_len_le 4 _ (by omega) (by omega)
    split
    · omega
    · have h2 := fracT_len (r := (n % 256).toNat) (by omega)
      have h3 := fracLen_rng (n % 256).toNat
      rw [List.length_append, List.length_cons, h2]
      omega
  · simp
theorem join_len2 (ts : List (List UInt8)) : (join ts [44, 32]).length ≤ (ts.map List.length).sum + 2 * (ts.length - 1) := by
  cases ts with
  | nil => simp [join_nil]
  | cons a t =>
    rw [join_cons, List.length_append, List.map_cons, List.sum_cons, List.length_cons]
    have : ∀ r : List (List UInt8), (joinTail [44, 32] r).length = (r.map List.length).sum + 2 * r.length := by
      intro r
      induction r with
      | nil => simp [joinTail]
      | cons b s ih =>
        have e : joinTail [44, 32] (b :: s) = [44, 32] ++ b ++ joinTail [44, 32] s := by simp [joinTail]
        rw [e, List.length_append, List.length_append, ih, List.map_cons, List.sum_cons, List.length_cons]
        simp only [List.length_cons, List.length_nil]
        omega
    rw [this]
    omega
theorem getD_len_le : ∀ (ts : List (List UInt8)) (i : Nat), (ts.getD i []).length ≤ (ts.map List.length).sum
  | [], i => by simp
  | a :: t, 0 => by simp
  | a :: t, i + 1 => by
    have := getD_len_le t i
    rw [List.map_cons, List.sum_cons, List.getD_cons_succ]
    omega
theorem getD2_len_le (ts : List (List UInt8)) : (ts.getD 0 []).length + (ts.getD 1 []).length ≤ (ts.map List.length).sum := by
  cases ts with
  | nil => simp
  | cons a t =>
    have := getD_len_le t 0
    simp only [List.getD_cons_zero, List.getD_cons_succ, List.map_cons, List.sum_cons]
    omega
theorem nodeT_len {x : ENode} {ts : List (List UInt8)} (h1 : x.2.1.length ≤ 8) (h2 : okShape x.1 ts.length = true) : (nodeT x ts).length ≤ 14 + (ts.map List.length).sum := by
  unfold nodeT
  split
  · have := numF_len x.2.2.1; omega
  · split
    · omega
    · split
      · have := getD_len_le ts 0
        simp only [List.length_append, List.length_cons, List.length_nil]; omega
      · split
        · next h8 =>
          have h3 : ts.length ≤ 3 := by
            unfold okShape at h2
            rw [h8] at h2
            simpa using h2
          have := join_len2 ts
          simp only [List.length_append, List.length_cons, List.length_nil]; omega
        · have := getD2_len_le ts
          simp only [List.length_append, List.length_cons, List.length_nil]; omega
theorem sum_le_sum {l : List Int} {f g : Int → Nat} (h : ∀ a ∈ l, f a ≤ g a) : (l.map f).sum ≤ (l.map g).sum := by
  induction l with
  | nil => simp
  | cons a t ih =>
    rw [List.map_cons, List.map_cons, List.sum_cons, List.sum_cons]
    have h1 := h a (by simp)
    have h2 := ih (fun b hb => h b (by simp [hb]))
    omega
theorem textP_size (h : validP p = true) : ∀ k, k < p.1.length → (textP p k).length ≤ sizeN (gOfP p) k := by
  have hn := valid_nodes h
  intro k
  induction k using Nat.strongRecOn with
  | ind k ih =>
    intro hk
    rw [textP_eq hn hk, sizeN_eq (valid_down hn)]
    refine Nat.le_trans (nodeT_len (node_name h hk) (by rw [List.length_map]; exact node_shape h hk)) ?_
    have e : (gOfP p).getD k [] = p.1[k].2.2.2.map Int.toNat := by
      rw [getD_at (by rw [gOfP_len]; exact hk)]; simp [gOfP]
    rw [e, List.map_map, List.map_map]
    refine Nat.add_le_add_left (sum_le_sum fun a ha => ?_) _
    have := node_args hn hk a ha
    exact ih a.toNat (by omega) (by omega)
theorem textP_len (h : validP p = true) {k : Nat} (hk : k < p.1.length) : (textP p k).length ≤ 840 :=
  Nat.le_trans (textP_size h k hk) (size_le h (p.1.length - k) k (by omega) hk)
theorem assigns_len (h : validP p = true) : p.2.length ≤ 60 := by
  have h1 := (valid_perm h).length_eq
  rw [List.length_append, List.length_range, gOfP_len] at h1
  have h2 : (rOfP p).length = p.2.length := by simp [rOfP]
  have := valid_len h
  omega
end
/-- The text of one assignment. -/
def assT (p : EProg) (x : EAssign) : List UInt8 := x.1 ++ [32, 61, 32] ++ textP p x.2.toNat ++ [59, 10]
def progTo (p : EProg) (k : Nat) : List UInt8 := ((p.2.take k).map (assT p)).flatten
def progT (p : EProg) : List UInt8 := progTo p p.2.length
theorem progTo_succ {p : EProg} {k : Nat} (h : k < p.2.length) : progTo p (k + 1) = progTo p k ++ assT p p.2[k] := by
  unfold progTo
  rw [List.take_succ_eq_append_getElem h, List.map_append, List.flatten_append]
  simp
theorem assT_len {p : EProg} (h : validP p = true) {k : Nat} (hk : k < p.2.length) : (assT p p.2[k]).length ≤ 853 := by
  obtain ⟨h1, h2, h3⟩ := valid_root h hk
  have := (ident_len h1).2
  have := textP_len h (k := p.2[k].2.toNat) (by omega)
  unfold assT
  simp only [List.length_append, List.length_cons, List.length_nil]
  omega
theorem progTo_len {p : EProg} (h : validP p = true) : ∀ k, k ≤ p.2.length → (progTo p k).length ≤ 853 * k
  | 0, _ => by simp [progTo]
  | k + 1, hk => by
    rw [progTo_succ (by omega), List.length_append]
    have := progTo_len h k (by omega)
    have := assT_len h (k := k) (by omega)
    omega
theorem progT_len {p : EProg} (h : validP p = true) : (progT p).length ≤ 51180 := by
  have := progTo_len h p.2.length (Nat.le_refl _)
  have := assigns_len h
  unfold progT
  omega
end Go.Proofs.YtnlbojckobgjpaaGreatDoor

/- The checks of a program of the shading language. No machine in sight. -/
namespace Go.Proofs.YtnlbojckobgjpaaGreatDoor
open Go.RowKit
def txt (s : String) : List UInt8 := s.toUTF8.data.toList
def isVar (l : List UInt8) : Bool := decide (l = [117] ∨ l = [118] ∨ l = [120] ∨ l = [121] ∨ l = [122] ∨ l = [116])
def colorT : List UInt8 := [99, 111, 108, 111, 114]
/-- The number of parameters: abs floor du dv, min max step noise tex, clamp mix. -/
def arityF (l : List UInt8) : Int :=
  if l = [97, 98, 115] ∨ l = [102, 108, 111, 111, 114] ∨ l = [100, 117] ∨ l = [100, 118] then 1
  else if l = [109, 105, 110] ∨ l = [109, 97, 120] ∨ l = [115, 116, 101, 112] ∨ l = [110, 111, 105, 115, 101] ∨ l = [116, 101, 120] then 2
  else if l = [99, 108, 97, 109, 112] ∨ l = [109, 105, 120] then 3 else -1
/-- An assignment to the name, ahead of a number, among the first k. -/
def hasTo (p : EProg) (name : List UInt8) (before : Int) (k : Nat) : Bool := (p.2.take k).zipIdx.any fun x => decide ((x.2 : Int) < before) && decide (x.1.1 = name)
def has (p : EProg) (name : List UInt8) (before : Int) : Bool := hasTo p name before p.2.length
theorem hasTo_succ {p : EProg} {name : List UInt8} {before : Int} {k : Nat} (h : k < p.2.length) : hasTo p name before (k + 1) = (hasTo p name before k || (decide ((k : Int) < before) && decide (p.2[k].1 = name))) := by
  unfold hasTo
  rw [List.take_succ_eq_append_getElem h, List.zipIdx_append, List.any_append]
  simp [List.length_take, Nat.min_eq_left (Nat.le_of_lt h)]
theorem hasTo_iff {p : EProg} {name : List UInt8} {before : Int} {k : Nat} (hk : k ≤ p.2.length) : hasTo p name before k = true ↔ ∃ (j : Nat) (h : j < p.2.length), j < k ∧ (j : Int) < before ∧ p.2[j].1 = name := by
  induction k with
  | zero => simp [hasTo]
  | succ k ih =>
    rw [hasTo_succ (by omega), Bool.or_eq_true, ih (by omega)]
    simp only [Bool.and_eq_true, decide_eq_true_eq]
    constructor
    · rintro (⟨j, h, h1, h2, h3⟩ | ⟨h2, h3⟩)
      · exact ⟨j, h, by omega, h2, h3⟩
      · exact ⟨k, by omega, by omega, h2, h3⟩
    · rintro ⟨j, h, h1, h2, h3⟩
      by_cases e : j = k
      · subst e; exact .inr ⟨h2, h3⟩
      · exact .inl ⟨j, h, by omega, h2, h3⟩
/-- What the reference's loop keeps. -/
def lastTo (p : EProg) (name : List UInt8) (before : Int) : Nat → Int
  | 0 => -1
  | k + 1 => if (k : Int) < before ∧ ((p.2[k]?).map (·.1)) = some name then k else lastTo p name before k
theorem lastTo_rng (p : EProg) (name : List UInt8) (before : Int) : ∀ k, -1 ≤ lastTo p name before k ∧ lastTo p name before k < k
  | 0 => by simp [lastTo]
  | k + 1 => by
    have := lastTo_rng p name before k
    unfold lastTo
    split <;> omega
theorem lastTo_succ {p : EProg} {name : List UInt8} {before : Int} {k : Nat} (h : k < p.2.length) : lastTo p name before (k + 1) = if (k : Int) < before ∧ p.2[k].1 = name then (k : Int) else lastTo p name before k := by
  have e : (((p.2[k]?).map (·.1)) = some name) ↔ p.2[k].1 = name := by rw [List.getElem?_eq_getElem h]; simp
  show (if (k : Int) < before ∧ ((p.2[k]?).map (·.1)) = some name then (k : Int) else lastTo p name before k) = _
  simp only [e]
theorem lastTo_has {p : EProg} {name : List UInt8} {before : Int} : ∀ {k : Nat}, k ≤ p.2.length → (0 ≤ lastTo p name before k ↔ hasTo p name before k = true)
  | 0, _ => by simp [lastTo, hasTo]
  | k + 1, hk => by
    have ih := lastTo_has (p := p) (name := name) (before := before) (show k ≤ p.2.length by omega)
    rw [hasTo_succ (by omega), Bool.or_eq_true, ← ih, Bool.and_eq_true, decide_eq_true_eq, decide_eq_true_eq]
    rw [lastTo_succ (by omega)]
    split
    · next h => exact ⟨fun _ => .inr h, fun _ => by omega⟩
    · next h => exact ⟨.inl, fun h' => h'.elim id (fun h' => absurd h' h)⟩
/-- The first assignment to a name among the first k: what the program's map holds. -/
def firstTo (p : EProg) (name : List UInt8) : Nat → Option Nat
  | 0 => none
  | k + 1 => match firstTo p name k with
    | some j => some j
    | none => if (p.2[k]?).map (·.1) = some name then some k else none
theorem firstTo_none {p : EProg} {name : List UInt8} : ∀ {k : Nat}, k ≤ p.2.length → firstTo p name k = none → ∀ i (hi : i < p.2.length), i < k → p.2[i].1 ≠ name
  | 0, _, _, i, _, h => by omega
  | k + 1, hk, h, i, hi, hik => by
    unfold firstTo at h
    cases hf : firstTo p name k with
    | some j => rw [hf] at h; cases h
    | none =>
      rw [hf] at h
      simp only at h
      split at h
      · cases h
      · next hc =>
        by_cases e : i = k
        · subst e
          rw [List.getElem?_eq_getElem hi, Option.map_some, Option.some.injEq] at hc
          exact hc
        · exact firstTo_none (show k ≤ p.2.length by omega) hf i hi (by omega)
theorem firstTo_some {p : EProg} {name : List UInt8} : ∀ {k j : Nat}, k ≤ p.2.length → firstTo p name k = some j → ∃ h : j < p.2.length, j < k ∧ p.2[j].1 = name ∧ ∀ i (hi : i < p.2.length), i < j → p.2[i].1 ≠ name
  | 0, j, _, h => by cases h
  | k + 1, j, hk, h => by
    unfold firstTo at h
    cases hf : firstTo p name k with
    | some i =>
      rw [hf] at h
      cases h
      obtain ⟨h1, h2, h3, h4⟩ := firstTo_some (show k ≤ p.2.length by omega) hf
      exact ⟨h1, by omega, h3, h4⟩
    | none =>
      rw [hf] at h
      simp only at h
      split at h
      · next hc =>
        cases h
        rw [List.getElem?_eq_getElem (by omega), Option.map_some, Option.some.injEq] at hc
        refine ⟨by omega, by omega, hc, fun i hi hij e => ?_⟩
        exact firstTo_none (show k ≤ p.2.length by omega) hf i hi hij e
      · cases h
/-- 'there && k < owner' of the program is the reference's question. -/
theorem first_has {p : EProg} {name : List UInt8} (before : Int) : (match firstTo p name p.2.length with | some j => decide ((j : Int) < before) | none => false) = has p name before := by
  unfold has
  rw [Bool.eq_iff_iff, hasTo_iff (Nat.le_refl _)]
  cases hf : firstTo p name p.2.length with
  | some j =>
    obtain ⟨h1, h2, h3, h4⟩ := firstTo_some (Nat.le_refl _) hf
    simp only [decide_eq_true_eq]
    constructor
    · exact fun h => ⟨j, h1, h2, h, h3⟩
    · rintro ⟨i, hi, _, hb, e⟩
      by_cases hij : i < j
      · exact absurd e (h4 i hi hij)
      · omega
  | none =>
    simp only [Bool.false_eq_true, false_iff]
    rintro ⟨i, hi, hi2, _, e⟩
    exact firstTo_none (Nat.le_refl _) hf i hi hi2 e
/-- The owners of a valid program's nodes. -/
def ownP (p : EProg) : List Int := ownS (gOfP p) (rOfP p)
theorem ownP_I {p : EProg} (h : validP p = true) : ownI (gOfP p) (rOfP p) = ownP p := owners_eq (validP_tree h)
def nameOk (p : EProg) (k : Nat) (x : ENode) : Bool := if x.1 = 2 then isVar x.2.1 || has p x.2.1 ((ownP p).getD k 0) else if x.1 = 8 then decide (0 ≤ arityF x.2.1) else true
def arityOk (x : ENode) : Bool := if x.1 = 8 then decide (arityF x.2.1 = x.2.2.2.length) else true
def assOk (p : EProg) (k : Nat) (x : EAssign) : Bool := !isVar x.1 && !has p x.1 k
def namesTo (p : EProg) (k : Nat) : Bool := (p.1.take k).zipIdx.all fun x => nameOk p x.2 x.1
def aritiesTo (p : EProg) (k : Nat) : Bool := (p.1.take k).all arityOk
def asssTo (p : EProg) (k : Nat) : Bool := (p.2.take k).zipIdx.all fun x => assOk p x.2 x.1
/-- The program passes all checks. -/
def checkOk (p : EProg) : Bool := validP p && namesTo p p.1.length && aritiesTo p p.1.length && asssTo p p.2.length && has p colorT p.2.length
theorem namesTo_succ {p : EProg} {k : Nat} (h : k < p.1.length) : namesTo p (k + 1) = (namesTo p k && nameOk p k p.1[k]) := by
  unfold namesTo
  rw [List.take_succ_eq_append_getElem h, List.zipIdx_append, List.all_append]
  simp [List.length_take, Nat.min_eq_left (Nat.le_of_lt h)]
theorem aritiesTo_succ {p : EProg} {k : Nat} (h : k < p.1.length) : aritiesTo p (k + 1) = (aritiesTo p k && arityOk p.1[k]) := by
  unfold aritiesTo
  rw [List.take_succ_eq_append_getElem h, List.all_append]; simp
theorem asssTo_succ {p : EProg} {k : Nat} (h : k < p.2.length) : asssTo p (k + 1) = (asssTo p k && assOk p k p.2[k]) := by
  unfold asssTo
  rw [List.take_succ_eq_append_getElem h, List.zipIdx_append, List.all_append]
  simp [List.length_take, Nat.min_eq_left (Nat.le_of_lt h)]
end Go.Proofs.YtnlbojckobgjpaaGreatDoor
