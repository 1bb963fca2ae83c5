/- Several texts in one: GramP, GramT, GramV, GramD, GramX. -/
import Derived.Test.YtnlbojckobgjpaaGreatDoorParP
import Derived.Test.YtnlbojckobgjpaaGreatDoorMgE
import Derived.Test.YtnlbojckobgjpaaGreatDoorMgB
/- Plain: the tokens of a text, piece by piece; what a parser makes of them; trees. No program in sight. -/
set_option linter.unusedVariables false
set_option linter.unusedSimpArgs false
namespace Go.Proofs.YtnlbojckobgjpaaGreatDoor
/-- A token without its place. -/
abbrev TK := Int × List UInt8 × Int
def tkOf (x : ETok) : TK := (x.1, x.2.1, x.2.2.1)
/-- The text is the tokens, with spaces anywhere between. -/
inductive LX : List UInt8 → List TK → Prop
  | nil : LX [] []
  | sp {b : UInt8} {l : List UInt8} {ts : List TK} (hb : isSp b = true) (h : LX l ts) : LX (b :: l) ts
  | tok {b : UInt8} {l : List UInt8} {k : Int} {m v : Nat} {ts : List TK} (hb : isSp b = false) (hs : scanTok (b :: l) = some (k, m, v)) (h : LX ((b :: l).drop m) ts) : LX (b :: l) ((k, (b :: l).take m, (v : Int)) :: ts)
theorem LX.tokz {src : List UInt8} {s : List UInt8} {ts : List TK} (h : LX s ts) : ∀ (a n : Nat) (l : List ETok), s = src.drop a → src.length < a + n → ∃ r, tokz src n a l = .ok (l ++ r) ∧ r.map tkOf = ts := by
  induction h with
  | nil =>
    intro a n l hs hn
    have : src.length ≤ a := by have := congrArg List.length hs; simp at this; omega
    exact ⟨[], by rw [tokz_end this]; simp, rfl⟩
  | @sp b s ts hb h ih =>
    intro a n l hs hn
    have hal : a < src.length := by have := congrArg List.length hs; simp at this; omega
    obtain ⟨n, rfl⟩ : ∃ m, n = m + 1 := ⟨n - 1, by omega⟩
    have hx : src[a]? = some b := by have := congrArg (fun z => z[0]?) hs; simpa using this.symm
    rw [tokz_space hx hb]
    exact ih (a + 1) n l (by have := congrArg List.tail hs; simpa using this) (by omega)
  | @tok b s k m v ts hb hk h ih =>
    intro a n l hs hn
    have hal : a < src.length := by have := congrArg List.length hs; simp at this; omega
    obtain ⟨n, rfl⟩ : ∃ m, n = m + 1 := ⟨n - 1, by omega⟩
    have hx : src[a]? = some b := by have := congrArg (fun z => z[0]?) hs; simpa using this.symm
    have hj := scanTok_len hk
    rw [tokz_tok hx hb (by rw [← hs]; exact hk)]
    obtain ⟨r, h1, h2⟩ := ih (a + m) n (l ++ [(k, (src.drop a).take m, (v : Int), (a : Int))]) (by rw [hs, List.drop_drop]) (by omega)
    exact ⟨(k, (src.drop a).take m, (v : Int), (a : Int)) :: r, by rw [h1]; simp, by simp [tkOf, h2, hs]⟩
theorem LX.toksF {src : List UInt8} {ts : List TK} (h : LX src ts) (hl : src.length ≤ 2000) : ∃ r : List ETok, toksF src = .ok (r ++ [(0, [], 0, (src.length : Int))]) ∧ r.map tkOf = ts := by
  obtain ⟨r, h1, h2⟩ := h.tokz (src := src) 0 (src.length + 1) [] rfl (by omega)
  refine ⟨r, ?_, h2⟩
  unfold Go.Proofs.YtnlbojckobgjpaaGreatDoor.toksF
  rw [if_neg (by omega), h1]
  rfl
def isNmB (b : UInt8) : Bool := isLt b || isDg b
/-- No letter, no digit and no point comes next. -/
def Safe (l : List UInt8) : Prop := ∀ b, l.head? = some b → isNmB b = false ∧ b ≠ 46
theorem Safe.nil : Safe [] := fun b h => by cases h
theorem Safe.cons {b : UInt8} {l : List UInt8} (h : (isNmB b = false ∧ b ≠ 46) := by decide) : Safe (b :: l) := fun c hc => by simp at hc; subst hc; exact h
theorem LX.sym {b : UInt8} {l : List UInt8} {ts : List TK} (h : LX l ts) (hb : isSp b = false ∧ isDg b = false ∧ isLt b = false ∧ isSy b = true := by decide) : LX (b :: l) ((3, [b], 0) :: ts) := by
  obtain ⟨h1, h2, h3, h4⟩ := hb
  exact .tok (m := 1) (v := 0) h1 (by unfold scanTok; simp [h2, h3, h4]) h
theorem LX.name {w l : List UInt8} {ts : List TK} (h : LX l ts) (hs : Safe l) (hw : 0 < w.length ∧ w.length ≤ 8 ∧ (∀ b ∈ w, isNmB b = true) ∧ (∀ b, w.head? = some b → isLt b = true)) : LX (w ++ l) ((2, w, 0) :: ts) := by
  obtain ⟨h1, h2, h3, h4⟩ := hw
  match w, h1 with
  | b :: w, _ =>
    have hb := h4 b rfl
    have hn := (isLt_nat b).1 hb
    have hd : isDg b = false := isDg_not (by omega)
    have hsp : isSp b = false := by
      unfold isSp
      have e1 : ¬ b = 32 := by rintro rfl; simp at hn
      have e2 : ¬ b = 10 := by rintro rfl; simp at hn
      simp [e1, e2]
    have hspan : spanN (fun c => isLt c || isDg c) (b :: w ++ l) = (b :: w).length := by
      refine spanN_eq (fun j hj => ?_) (fun c hc => ?_)
      · exact ⟨(b :: w)[j], by rw [List.getElem?_append_left hj, List.getElem?_eq_getElem hj], h3 _ (List.getElem_mem hj)⟩
      · rw [List.getElem?_append_right (Nat.le_refl _), Nat.sub_self] at hc
        exact (hs c (by rw [List.head?_eq_getElem?]; exact hc)).1
    have hscan : scanTok (b :: (w ++ l)) = some (2, (b :: w).length, 0) := by
      unfold scanTok
      have e : spanN (fun c => isLt c || isDg c) (b :: (w ++ l)) = (b :: w).length := hspan
      simp only [hd, hb, if_true, e, if_false, Bool.false_eq_true]
      rw [if_neg (by omega)]
    have := LX.tok hsp hscan (ts := ts) (by show LX ((b :: w ++ l).drop (b :: w).length) ts; rw [List.drop_left]; exact h)
    have e2 : (b :: (w ++ l)).take (b :: w).length = b :: w := List.take_left (l₁ := b :: w) (l₂ := l)
    rw [e2] at this
    exact this
/-- A number token's text and value. -/
def NumT (w : List UInt8) (v : Nat) : Prop := ∀ l, Safe l → numTok (w ++ l) = some (w.length, v)
theorem LX.num {w l : List UInt8} {v : Nat} {ts : List TK} (h : LX l ts) (hs : Safe l) (hw : NumT w v) (hd : ∃ b r, w = b :: r ∧ isDg b = true) : LX (w ++ l) ((1, w, (v : Int)) :: ts) := by
  obtain ⟨b, r, rfl, hb⟩ := hd
  have hn := (isDg_nat b).1 hb
  have hsp : isSp b = false := by
    unfold isSp
    have e1 : ¬ b = 32 := by rintro rfl; simp at hn
    have e2 : ¬ b = 10 := by rintro rfl; simp at hn
    simp [e1, e2]
  have hscan : scanTok (b :: (r ++ l)) = some (1, (b :: r).length, v) := by
    unfold scanTok
    have e : numTok (b :: (r ++ l)) = some ((b :: r).length, v) := hw l hs
    simp only [hb, if_true, e]
    rfl
  have := LX.tok hsp hscan (ts := ts) (by show LX ((b :: r ++ l).drop (b :: r).length) ts; rw [List.drop_left]; exact h)
  have e2 : (b :: (r ++ l)).take (b :: r).length = b :: r := List.take_left (l₁ := b :: r) (l₂ := l)
  rw [e2] at this
  exact this
/-! The tokens of a source from a place on. -/
def Seg (T : List ETok) (a : Nat) (l : List TK) : Prop := ∀ (j : Nat) (h : j < l.length), tkOf (tk T (a + j)) = l[j]
theorem Seg.app {T : List ETok} {a : Nat} {x y : List TK} (h : Seg T a (x ++ y)) : Seg T a x ∧ Seg T (a + x.length) y := by
  refine ⟨fun j hj => ?_, fun j hj => ?_⟩
  · rw [h j (by simp; omega), List.getElem_append_left hj]
  · rw [Nat.add_assoc, h (x.length + j) (by simp; omega), List.getElem_append_right (by omega)]; simp
theorem Seg.cons {T : List ETok} {a : Nat} {x : TK} {y : List TK} (h : Seg T a (x :: y)) : tkOf (tk T a) = x ∧ Seg T (a + 1) y := ⟨h 0 (by simp), (Seg.app (x := [x]) (y := y) h).2⟩
theorem Seg.of {r : List ETok} {e : ETok} {ts : List TK} (h : r.map tkOf = ts) : Seg (r ++ [e]) 0 ts := by
  subst h
  intro j hj
  have hj' : j < r.length := by simpa using hj
  unfold tk
  simp [List.getD, List.getElem?_append_left hj', hj']
theorem pk_sym {T : List ETok} {a : Nat} {s : List UInt8} {v : Int} (h : tkOf (tk T a) = (3, s, v)) : pk T a = s := by
  unfold tkOf at h
  simp only [Prod.mk.injEq] at h
  unfold pk kd tx
  rw [if_pos h.1, h.2.1]
theorem pk_no {T : List ETok} {a : Nat} {k : Int} {s : List UInt8} {v : Int} (h : tkOf (tk T a) = (k, s, v)) (hk : k ≠ 3) : pk T a = [] := by
  unfold tkOf at h
  simp only [Prod.mk.injEq] at h
  unfold pk kd
  rw [if_neg (by rw [h.1]; exact hk)]
theorem kd_of {T : List ETok} {a : Nat} {k : Int} {s : List UInt8} {v : Int} (h : tkOf (tk T a) = (k, s, v)) : kd T a = k ∧ tx T a = s ∧ nm T a = v := by
  unfold tkOf at h
  simp only [Prod.mk.injEq] at h
  exact h
/-! Parsing with fuel enough. -/
def PE (T : List ETok) (m : PM) (d a : Nat) (ns : List ENode) (r : PR) : Prop := ∃ n0, ∀ n, n0 ≤ n → prs T n m d a ns = r
theorem emit_ok {T : List ETok} {x : ENode} {a : Nat} {ns : List ENode} (h : ns.length < 60) : emit T x a ns = .ok ns.length a (ns ++ [x]) := by unfold emit; rw [if_neg (by omega)]
section
variable {T : List ETok} {d a a1 : Nat} {ns n1 : List ENode} {v : Int} {r : PR}
theorem PE.num {s : List UInt8} {u : Int} (h : tkOf (tk T a) = (1, s, u)) (hd : d ≤ 64) (hl : ns.length < 60) : PE T .fac d a ns (.ok ns.length (a + 1) (ns ++ [(1, [], u, [])])) := by
  refine ⟨1, fun n hn => ?_⟩
  obtain ⟨n, rfl⟩ : ∃ m, n = m + 1 := ⟨n - 1, by omega⟩
  have h1 := pk_no h (by decide)
  obtain ⟨h2, h3, h4⟩ := kd_of h
  rw [prs, if_neg (by omega), if_neg (by rw [h1]; simp), if_neg (by rw [h1]; simp), if_pos h2, emit_ok hl, h4]
theorem PE.name {s : List UInt8} {u : Int} (h : tkOf (tk T a) = (2, s, u)) (hd : d ≤ 64) (hl : ns.length < 60) (hp : pk T (a + 1) ≠ [40]) : PE T .fac d a ns (.ok ns.length (a + 1) (ns ++ [(2, s, 0, [])])) := by
  refine ⟨1, fun n hn => ?_⟩
  obtain ⟨n, rfl⟩ : ∃ m, n = m + 1 := ⟨n - 1, by omega⟩
  have h1 := pk_no h (by decide)
  obtain ⟨h2, h3, h4⟩ := kd_of h
  rw [prs, if_neg (by omega), if_neg (by rw [h1]; simp), if_neg (by rw [h1]; simp), if_neg (by rw [h2]; decide), if_pos h2, if_neg hp, emit_ok hl, h3]
theorem PE.call {s : List UInt8} {u : Int} (h : tkOf (tk T a) = (2, s, u)) (hd : d ≤ 64) (hp : pk T (a + 1) = [40]) (k : PE T (.args s []) (d + 1) (a + 2) ns r) : PE T .fac d a ns r := by
  obtain ⟨n0, k⟩ := k
  refine ⟨n0 + 1, fun n hn => ?_⟩
  obtain ⟨n, rfl⟩ : ∃ m, n = m + 1 := ⟨n - 1, by omega⟩
  have h1 := pk_no h (by decide)
  obtain ⟨h2, h3, h4⟩ := kd_of h
  rw [prs, if_neg (by omega), if_neg (by rw [h1]; simp), if_neg (by rw [h1]; simp), if_neg (by rw [h2]; decide), if_pos h2, if_pos hp, h3, k n (by omega)]
theorem PE.neg (h : pk T a = [45]) (hd : d ≤ 64) (k : PE T .fac (d + 1) (a + 1) ns (.ok v a1 n1)) (hl : n1.length < 60) : PE T .fac d a ns (.ok n1.length a1 (n1 ++ [(3, [], 0, [v])])) := by
  obtain ⟨n0, k⟩ := k
  refine ⟨n0 + 1, fun n hn => ?_⟩
  obtain ⟨n, rfl⟩ : ∃ m, n = m + 1 := ⟨n - 1, by omega⟩
  rw [prs, if_neg (by omega), if_pos h, k n (by omega)]
  exact emit_ok hl
theorem PE.par (h : pk T a = [40]) (hd : d ≤ 64) (k : PE T (.bin true) (d + 1) (a + 1) ns (.ok v a1 n1)) (hc : pk T a1 = [41]) : PE T .fac d a ns (.ok v (a1 + 1) n1) := by
  obtain ⟨n0, k⟩ := k
  refine ⟨n0 + 1, fun n hn => ?_⟩
  obtain ⟨n, rfl⟩ : ∃ m, n = m + 1 := ⟨n - 1, by omega⟩
  rw [prs, if_neg (by omega), if_neg (by rw [h]; decide), if_pos h, k n (by omega)]
  exact if_pos hc
theorem PE.args0 {s : List UInt8} (h : pk T a = [41]) (hl : ns.length < 60) : PE T (.args s []) d a ns (.ok ns.length (a + 1) (ns ++ [(8, s, 0, [])])) := by
  refine ⟨1, fun n hn => ?_⟩
  obtain ⟨n, rfl⟩ : ∃ m, n = m + 1 := ⟨n - 1, by omega⟩
  rw [prs, if_pos ⟨rfl, h⟩, emit_ok hl]
theorem PE.more {s : List UInt8} {l : List Int} (h0 : ¬ (l = [] ∧ pk T a = [41])) (h3 : l.length ≠ 3) (k : PE T (.bin true) d a ns (.ok v a1 n1)) (hc : pk T a1 = [44]) (k2 : PE T (.args s (l ++ [v])) d (a1 + 1) n1 r) : PE T (.args s l) d a ns r := by
  obtain ⟨n0, k⟩ := k
  obtain ⟨m0, k2⟩ := k2
  refine ⟨n0 + m0 + 1, fun n hn => ?_⟩
  obtain ⟨n, rfl⟩ : ∃ m, n = m + 1 := ⟨n - 1, by omega⟩
  rw [prs, if_neg h0, if_neg h3, k n (by omega)]
  show (if pk T a1 = [44] then _ else _) = _
  rw [if_pos hc, k2 n (by omega)]
theorem PE.last {s : List UInt8} {l : List Int} (h0 : ¬ (l = [] ∧ pk T a = [41])) (h3 : l.length ≠ 3) (k : PE T (.bin true) d a ns (.ok v a1 n1)) (hc : pk T a1 = [41]) (hl : n1.length < 60) : PE T (.args s l) d a ns (.ok n1.length (a1 + 1) (n1 ++ [(8, s, 0, l ++ [v])])) := by
  obtain ⟨n0, k⟩ := k
  refine ⟨n0 + 1, fun n hn => ?_⟩
  obtain ⟨n, rfl⟩ : ∃ m, n = m + 1 := ⟨n - 1, by omega⟩
  rw [prs, if_neg h0, if_neg h3, k n (by omega)]
  show (if pk T a1 = [44] then _ else _) = _
  rw [if_neg (by rw [hc]; decide), if_pos hc, emit_ok hl]
theorem PE.bin {add : Bool} (k : PE T (opd add) d a ns (.ok v a1 n1)) (k2 : PE T (.loop add v) d a1 n1 r) : PE T (.bin add) d a ns r := by
  obtain ⟨n0, k⟩ := k
  obtain ⟨m0, k2⟩ := k2
  refine ⟨n0 + m0 + 1, fun n hn => ?_⟩
  obtain ⟨n, rfl⟩ : ∃ m, n = m + 1 := ⟨n - 1, by omega⟩
  rw [prs, k n (by omega)]
  exact k2 n (by omega)
theorem PE.stop {add : Bool} (h : opS add (pk T a) = 0) : PE T (.loop add v) d a ns (.ok v a ns) := by
  refine ⟨1, fun n hn => ?_⟩
  obtain ⟨n, rfl⟩ : ∃ m, n = m + 1 := ⟨n - 1, by omega⟩
  rw [prs, if_pos h]
theorem PE.go {add : Bool} {b : Int} (h : opS add (pk T a) ≠ 0) (k : PE T (opd add) d (a + 1) ns (.ok b a1 n1)) (hl : n1.length < 60) (k2 : PE T (.loop add n1.length) d a1 (n1 ++ [(opS add (pk T a), [], 0, [v, b])]) r) : PE T (.loop add v) d a ns r := by
  obtain ⟨n0, k⟩ := k
  obtain ⟨m0, k2⟩ := k2
  refine ⟨n0 + m0 + 1, fun n hn => ?_⟩
  obtain ⟨n, rfl⟩ : ∃ m, n = m + 1 := ⟨n - 1, by omega⟩
  rw [prs, if_neg h, k n (by omega)]
  show (match emit T _ a1 n1 with | .ok u a2 n2 => prs T n (.loop add u) d a2 n2 | .bad o => .bad o | .out => .out) = r
  rw [emit_ok hl]
  exact k2 n (by omega)
end
/-- More fuel changes nothing. -/
theorem prs_mono {T : List ETok} : ∀ (n : Nat) (m : PM) (d a : Nat) (ns : List ENode), prs T n m d a ns ≠ .out → prs T (n + 1) m d a ns = prs T n m d a ns := by
  intro n
  induction n with
  | zero => intro m d a ns h; exact absurd rfl h
  | succ n ih =>
    intro m d a ns h
    match m with
    | .bin add =>
      rw [prs] at h
      show (match prs T (n + 1) (opd add) d a ns with | .ok v a1 n1 => prs T (n + 1) (.loop add v) d a1 n1 | .bad o => .bad o | .out => .out) = (match prs T n (opd add) d a ns with | .ok v a1 n1 => prs T n (.loop add v) d a1 n1 | .bad o => .bad o | .out => .out)
      cases hr : prs T n (opd add) d a ns with
      | out => rw [hr] at h; exact absurd rfl h
      | bad o => rw [ih _ _ _ _ (by rw [hr]; simp), hr]
      | ok v a1 n1 =>
        rw [hr] at h
        rw [ih _ _ _ _ (by rw [hr]; simp), hr]
        exact ih _ _ _ _ h
    | .loop add v =>
      rw [prs] at h
      show (if opS add (pk T a) = 0 then _ else _) = (if opS add (pk T a) = 0 then _ else _)
      by_cases h0 : opS add (pk T a) = 0
      · rw [if_pos h0, if_pos h0]
      · rw [if_neg h0] at h
        rw [if_neg h0, if_neg h0]
        cases hr : prs T n (opd add) d (a + 1) ns with
        | out => rw [hr] at h; exact absurd rfl h
        | bad o => rw [ih _ _ _ _ (by rw [hr]; simp), hr]
        | ok b a1 n1 =>
          rw [hr] at h
          rw [ih _ _ _ _ (by rw [hr]; simp), hr]
          show (match emit T _ a1 n1 with | .ok u a2 n2 => prs T (n + 1) (.loop add u) d a2 n2 | .bad o => .bad o | .out => .out) = (match emit T _ a1 n1 with | .ok u a2 n2 => prs T n (.loop add u) d a2 n2 | .bad o => .bad o | .out => .out)
          have h' : (match emit T (opS add (pk T a), [], 0, [v, b]) a1 n1 with | .ok u a2 n2 => prs T n (.loop add u) d a2 n2 | .bad o => .bad o | .out => .out) ≠ .out := h
          cases he : emit T (opS add (pk T a), [], 0, [v, b]) a1 n1 with
          | out => rfl
          | bad o => rfl
          | ok u a2 n2 => rw [he] at h'; exact ih _ _ _ _ h'
    | .fac =>
      rw [prs] at h
      show (if 64 < d then _ else _) = (if 64 < d then _ else _)
      by_cases c1 : 64 < d
      · rw [if_pos c1, if_pos c1]
      rw [if_neg c1] at h
      rw [if_neg c1, if_neg c1]
      by_cases c2 : pk T a = [45]
      · rw [if_pos c2] at h
        rw [if_pos c2, if_pos c2]
        cases hr : prs T n .fac (d + 1) (a + 1) ns with
        | out => rw [hr] at h; exact absurd rfl h
        | bad o => rw [ih _ _ _ _ (by rw [hr]; simp), hr]
        | ok b a1 n1 => rw [ih _ _ _ _ (by rw [hr]; simp), hr]
      rw [if_neg c2] at h
      rw [if_neg c2, if_neg c2]
      by_cases c3 : pk T a = [40]
      · rw [if_pos c3] at h
        rw [if_pos c3, if_pos c3]
        cases hr : prs T n (.bin true) (d + 1) (a + 1) ns with
        | out => rw [hr] at h; exact absurd rfl h
        | bad o => rw [ih _ _ _ _ (by rw [hr]; simp), hr]
        | ok b a1 n1 => rw [ih _ _ _ _ (by rw [hr]; simp), hr]
      rw [if_neg c3] at h
      rw [if_neg c3, if_neg c3]
      by_cases c4 : kd T a = 1
      · rw [if_pos c4, if_pos c4]
      rw [if_neg c4] at h
      rw [if_neg c4, if_neg c4]
      by_cases c5 : kd T a = 2
      · rw [if_pos c5] at h
        rw [if_pos c5, if_pos c5]
        by_cases c6 : pk T (a + 1) = [40]
        · rw [if_pos c6] at h
          rw [if_pos c6, if_pos c6]
          exact ih _ _ _ _ h
        · rw [if_neg c6, if_neg c6]
      · rw [if_neg c5, if_neg c5]
    | .args name l =>
      rw [prs] at h
      show (if l = [] ∧ pk T a = [41] then _ else _) = (if l = [] ∧ pk T a = [41] then _ else _)
      by_cases c1 : l = [] ∧ pk T a = [41]
      · rw [if_pos c1, if_pos c1]
      rw [if_neg c1] at h
      rw [if_neg c1, if_neg c1]
      by_cases c2 : l.length = 3
      · rw [if_pos c2, if_pos c2]
      rw [if_neg c2] at h
      rw [if_neg c2, if_neg c2]
      cases hr : prs T n (.bin true) d a ns with
      | out => rw [hr] at h; exact absurd rfl h
      | bad o => rw [ih _ _ _ _ (by rw [hr]; simp), hr]
      | ok v a1 n1 =>
        rw [hr] at h
        rw [ih _ _ _ _ (by rw [hr]; simp), hr]
        show (if pk T a1 = [44] then _ else _) = (if pk T a1 = [44] then _ else _)
        have h' : (if pk T a1 = [44] then prs T n (.args name (l ++ [v])) d (a1 + 1) n1 else if pk T a1 = [41] then emit T (8, name, 0, l ++ [v]) (a1 + 1) n1 else .bad (of_ T a1)) ≠ .out := h
        by_cases c3 : pk T a1 = [44]
        · rw [if_pos c3] at h'
          rw [if_pos c3, if_pos c3]
          exact ih _ _ _ _ h'
        · rw [if_neg c3, if_neg c3]
theorem prs_le {T : List ETok} {m : PM} {d a : Nat} {ns : List ENode} {n : Nat} (h : prs T n m d a ns ≠ .out) : ∀ k, prs T (n + k) m d a ns = prs T n m d a ns
  | 0 => rfl
  | k + 1 => by
    have ih := prs_le h k
    rw [← Nat.add_assoc, prs_mono _ _ _ _ _ (by rw [ih]; exact h), ih]
theorem PE.at_ {T : List ETok} {m : PM} {d a : Nat} {ns : List ENode} {r : PR} {N : Nat} (k : PE T m d a ns r) (h : prs T N m d a ns ≠ .out) : prs T N m d a ns = r := by
  obtain ⟨n0, k⟩ := k
  rw [← prs_le h n0]
  exact k _ (by omega)
end Go.Proofs.YtnlbojckobgjpaaGreatDoor

/- Plain: trees of the shading language: their text, their tokens, their nodes; the text is parsed again. No program in sight. -/
namespace Go.Proofs.YtnlbojckobgjpaaGreatDoor
open Go.RowKit Go.Lib
inductive ET where
  | num (n : Nat)
  | name (x : List UInt8)
  | neg (t : ET)
  | bin (op : Nat) (a b : ET)
  | call0 (x : List UInt8)
  | call1 (x : List UInt8) (a : ET)
  | call2 (x : List UInt8) (a b : ET)
  | call3 (x : List UInt8) (a b c : ET)
namespace ET
def size : ET → Nat
  | num _ | name _ | call0 _ => 1
  | neg t => t.size + 1
  | bin _ a b => a.size + b.size + 1
  | call1 _ a => a.size + 1
  | call2 _ a b => a.size + b.size + 1
  | call3 _ a b c => a.size + b.size + c.size + 1
def nodes : ET → Nat → List ENode
  | num n, s => [(1, [], (n : Int), [])]
  | name x, s => [(2, x, 0, [])]
  | neg t, s => t.nodes s ++ [(3, [], 0, [((s + t.size - 1 : Nat) : Int)])]
  | bin op a b, s => a.nodes s ++ b.nodes (s + a.size) ++ [(4 + (op : Int), [], 0, [((s + a.size - 1 : Nat) : Int), ((s + a.size + b.size - 1 : Nat) : Int)])]
  | call0 x, s => [(8, x, 0, [])]
  | call1 x a, s => a.nodes s ++ [(8, x, 0, [((s + a.size - 1 : Nat) : Int)])]
  | call2 x a b, s => a.nodes s ++ b.nodes (s + a.size) ++ [(8, x, 0, [((s + a.size - 1 : Nat) : Int), ((s + a.size + b.size - 1 : Nat) : Int)])]
  | call3 x a b c, s => a.nodes s ++ b.nodes (s + a.size) ++ c.nodes (s + a.size + b.size) ++ [(8, x, 0, [((s + a.size - 1 : Nat) : Int), ((s + a.size + b.size - 1 : Nat) : Int), ((s + a.size + b.size + c.size - 1 : Nat) : Int)])]
def sym (op : Nat) : UInt8 := if op = 0 then 43 else if op = 1 then 45 else if op = 2 then 42 else 47
def text : ET → List UInt8
  | num n => numF n
  | name x => x
  | neg t => [40, 45] ++ t.text ++ [41]
  | bin op a b => [40] ++ a.text ++ [32] ++ [sym op] ++ [32] ++ b.text ++ [41]
  | call0 x => x ++ [40] ++ [41]
  | call1 x a => x ++ [40] ++ a.text ++ [41]
  | call2 x a b => x ++ [40] ++ a.text ++ [44, 32] ++ b.text ++ [41]
  | call3 x a b c => x ++ [40] ++ a.text ++ [44, 32] ++ b.text ++ [44, 32] ++ c.text ++ [41]
def toks : ET → List TK
  | num n => [(1, numF n, (n : Int))]
  | name x => [(2, x, 0)]
  | neg t => (3, [40], 0) :: (3, [45], 0) :: (t.toks ++ [(3, [41], 0)])
  | bin op a b => (3, [40], 0) :: (a.toks ++ (3, [sym op], 0) :: (b.toks ++ [(3, [41], 0)]))
  | call0 x => [(2, x, 0), (3, [40], 0), (3, [41], 0)]
  | call1 x a => (2, x, 0) :: (3, [40], 0) :: (a.toks ++ [(3, [41], 0)])
  | call2 x a b => (2, x, 0) :: (3, [40], 0) :: (a.toks ++ (3, [44], 0) :: (b.toks ++ [(3, [41], 0)]))
  | call3 x a b c => (2, x, 0) :: (3, [40], 0) :: (a.toks ++ (3, [44], 0) :: (b.toks ++ (3, [44], 0) :: (c.toks ++ [(3, [41], 0)])))
def ok : ET → Prop
  | num n => n ≤ 2559999
  | name x => isIdent x = true
  | neg t => t.ok
  | bin op a b => op < 4 ∧ a.ok ∧ b.ok
  | call0 x => isIdent x = true
  | call1 x a => isIdent x = true ∧ a.ok
  | call2 x a b => isIdent x = true ∧ a.ok ∧ b.ok
  | call3 x a b c => isIdent x = true ∧ a.ok ∧ b.ok ∧ c.ok
theorem size_pos (t : ET) : 0 < t.size := by cases t <;> simp [size]
theorem nodes_len (t : ET) : ∀ s, (t.nodes s).length = t.size := by
  induction t with
  | num n | name x | call0 x => intro s; rfl
  | neg t ih | call1 x t ih => intro s; simp [nodes, size, ih]
  | bin op a b iha ihb | call2 x a b iha ihb => intro s; simp [nodes, size, iha, ihb]; omega
  | call3 x a b c iha ihb ihc => intro s; simp [nodes, size, iha, ihb, ihc]; omega
end ET
/-! Numbers. -/
theorem decDigits_rec (u : Nat) : decDigits u = if u < 10 then [UInt8.ofNat (48 + u)] else decDigits (u / 10) ++ [UInt8.ofNat (48 + u % 10)] := by
  rw [decDigits]; split <;> rfl
theorem ofNat_dig8 {d : Nat} (h : d < 10) : (UInt8.ofNat (48 + d)).toNat = 48 + d := by
  rw [UInt8.toNat_ofNat']
  omega
theorem valD_dec (u : Nat) : valD (decDigits u) = u := by
  induction u using Nat.strongRecOn with
  | ind u ih =>
    rw [decDigits_rec]
    split
    · rename_i h
      show 10 * 0 + ((UInt8.ofNat (48 + u)).toNat - 48) = u
      rw [ofNat_dig8 h]; omega
    · rename_i h
      unfold valD
      rw [valN_snoc, ofNat_dig8 (Nat.mod_lt _ (by omega))]
      have := ih (u / 10) (by omega)
      unfold valD at this
      rw [this]; omega
theorem DG.of_all {l m : List UInt8} (h : ∀ b ∈ l, 48 ≤ b.toNat ∧ b.toNat ≤ 57) : DG (l ++ m) l.length := fun j hj =>
  ⟨l[j], by rw [List.getElem?_append_left hj, List.getElem?_eq_getElem hj], (isDg_nat _).2 (h _ (List.getElem_mem hj))⟩
theorem DG.span_safe {l m : List UInt8} (h : ∀ b ∈ l, 48 ≤ b.toNat ∧ b.toNat ≤ 57) (hm : ∀ b, m.head? = some b → isDg b = false) : spanN isDg (l ++ m) = l.length :=
  spanN_eq (DG.of_all h) (fun b hb => hm b (by rw [List.getElem?_append_right (Nat.le_refl _), Nat.sub_self] at hb; rw [List.head?_eq_getElem?]; exact hb))
theorem Safe.dg {l : List UInt8} (h : Safe l) : ∀ b, l.head? = some b → isDg b = false := fun b hb => by
  have := (h b hb).1
  unfold isNmB at this
  simp only [Bool.or_eq_false_iff] at this
  exact this.2
theorem fracT_dig {r : Nat} {b : UInt8} (h : b ∈ fracT r) : 48 ≤ b.toNat ∧ b.toNat ≤ 57 := by
  unfold fracT at h
  rcases List.mem_append.1 h with h | h
  · rw [List.eq_of_mem_replicate h]; decide
  · exact decDigits_digit h
theorem valN_zeros (k : Nat) (l : List UInt8) : valN (List.replicate k 48 ++ l) 0 = valN l 0 := by
  induction k with
  | zero => rfl
  | succ k ih => exact ih
theorem valD_frac (r : Nat) : valD (fracT r) = fracNum r := by
  unfold fracT valD
  rw [valN_zeros]
  exact valD_dec _
theorem NumT.numF {n : Nat} (h : n ≤ 2559999) : NumT (numF n) n := by
  intro l hs
  have hw : n / 256 < 10 ^ 4 := by omega
  have hd := decDigits_len_le 4 (n / 256) (by omega) hw
  have e1 : ((n : Int) / 256).toNat = n / 256 := by omega
  have e2 : ((n : Int) % 256).toNat = n % 256 := by omega
  unfold Go.Proofs.YtnlbojckobgjpaaGreatDoor.numF
  rw [if_pos (by omega), e1, e2]
  by_cases h0 : (n : Int) % 256 = 0
  · rw [if_pos h0]
    have hsp : spanN isDg (decDigits (n / 256) ++ l) = (decDigits (n / 256)).length := DG.span_safe (fun b hb => decDigits_digit hb) hs.dg
    rw [numTok_int hsp (by omega) (fun hc => by
      rw [List.getElem?_append_right (Nat.le_refl _), Nat.sub_self, ← List.head?_eq_getElem?] at hc
      exact (hs 46 hc).2 rfl), List.take_left, valD_dec]
    rw [show n / 256 * 256 = n by omega]
  · rw [if_neg h0]
    have hr : n % 256 < 256 := Nat.mod_lt _ (by omega)
    have hfl := fracT_len hr
    have hfr := fracLen_rng (n % 256)
    have hsp : spanN isDg (decDigits (n / 256) ++ (46 :: fracT (n % 256) ++ l)) = (decDigits (n / 256)).length := DG.span_safe (fun b hb => decDigits_digit hb) (fun b hb => by simp at hb; subst hb; decide)
    have hsp2 : spanN isDg (fracT (n % 256) ++ l) = (fracT (n % 256)).length := DG.span_safe (fun b hb => fracT_dig hb) hs.dg
    have hdrop : (decDigits (n / 256) ++ (46 :: fracT (n % 256) ++ l)).drop ((decDigits (n / 256)).length + 1) = fracT (n % 256) ++ l := by
      rw [← List.drop_drop, List.drop_left]; rfl
    rw [List.append_assoc, numTok_dot (p := (fracT (n % 256)).length) hsp (by omega) (by rw [List.getElem?_append_right (Nat.le_refl _), Nat.sub_self]; rfl) (by rw [hdrop]; exact hsp2) (by omega), hdrop, List.take_left, List.take_left, valD_dec, valD_frac, hfl]
    have hok := fracLen_ok hr
    unfold fracOk at hok
    simp only [Bool.and_eq_true, decide_eq_true_eq] at hok
    unfold fracNum
    rw [hok.2]
    simp only [List.length_append, List.length_cons, Option.some.injEq, Prod.mk.injEq]
    omega
theorem numF_head {n : Nat} (h : n ≤ 2559999) : ∃ b r, numF n = b :: r ∧ isDg b = true := by
  have hne := decDigits_ne ((n : Int) / 256).toNat
  match hd : decDigits ((n : Int) / 256).toNat, hne with
  | b :: r, _ =>
    have hb : isDg b = true := (isDg_nat b).2 (decDigits_digit (u := ((n : Int) / 256).toNat) (by rw [hd]; simp))
    unfold Go.Proofs.YtnlbojckobgjpaaGreatDoor.numF
    rw [if_pos (by omega)]
    split
    · exact ⟨b, r, hd, hb⟩
    · exact ⟨b, _, by rw [hd]; rfl, hb⟩
theorem numF_len8 {n : Nat} (h : n ≤ 2559999) : (numF n).length ≤ 8 := by
  have hd := decDigits_len_le 4 ((n : Int) / 256).toNat (by omega) (by omega)
  have hr : ((n : Int) % 256).toNat < 256 := by omega
  have hfl := fracT_len hr
  have hfr := fracLen_rng ((n : Int) % 256).toNat
  unfold Go.Proofs.YtnlbojckobgjpaaGreatDoor.numF
  rw [if_pos (by omega)]
  split
  · omega
  · rw [List.length_append, List.length_cons]; omega
/-! Names. -/
theorem ident_name {x : List UInt8} (h : isIdent x = true) : 0 < x.length ∧ x.length ≤ 8 ∧ (∀ b ∈ x, isNmB b = true) ∧ (∀ b, x.head? = some b → isLt b = true) := by
  unfold isIdent at h
  simp only [Bool.and_eq_true, decide_eq_true_eq] at h
  obtain ⟨h1, h2, h3⟩ := h
  unfold identTo at h1
  rw [List.take_length, List.all_eq_true] at h1
  have hb : ∀ b, letterB b = isLt b := fun b => by
    unfold letterB
    cases hl : isLt b with
    | true => exact decide_eq_true ((isLt_nat b).1 hl)
    | false => exact decide_eq_false (fun hc => by rw [(isLt_nat b).2 hc] at hl; cases hl)
  have hdg : ∀ b, digitB b = isDg b := fun b => by
    unfold digitB
    cases hl : isDg b with
    | true => exact decide_eq_true ((isDg_nat b).1 hl)
    | false => exact decide_eq_false (fun hc => by rw [(isDg_nat b).2 hc] at hl; cases hl)
  refine ⟨by omega, h3, fun b hm => ?_, fun b hm => ?_⟩
  · obtain ⟨i, hi, rfl⟩ := List.getElem_of_mem hm
    have := h1 (x[i], i) (List.mk_mem_zipIdx_iff_getElem?.2 (List.getElem?_eq_getElem hi))
    simp only [hb, hdg, Bool.or_eq_true, Bool.and_eq_true] at this
    unfold isNmB
    rcases this with h | ⟨h, _⟩ <;> simp [h]
  · have := h1 (b, 0) (List.mk_mem_zipIdx_iff_getElem?.2 (by rw [← List.head?_eq_getElem?]; exact hm))
    simpa [hb] using this
theorem LX.ident {x l : List UInt8} {ts : List TK} (h : LX l ts) (hs : Safe l) (hx : isIdent x = true) : LX (x ++ l) ((2, x, 0) :: ts) := h.name hs (ident_name hx)
namespace ET
theorem lex {t : ET} (ht : t.ok) : ∀ {l : List UInt8} {ts : List TK}, LX l ts → Safe l → LX (t.text ++ l) (t.toks ++ ts) := by
  induction t with
  | num n => intro l ts h hs; exact h.num hs (NumT.numF ht) (numF_head ht)
  | name x => intro l ts h hs; exact h.ident hs ht
  | neg t ih =>
    intro l ts h hs
    have := (ih ht (h.sym (b := 41)) (.cons)).sym (b := 45) |>.sym (b := 40)
    simpa [text, toks] using this
  | bin op a b iha ihb =>
    intro l ts h hs
    obtain ⟨ho, ha, hb⟩ := ht
    have h1 := (ihb hb (h.sym (b := 41)) (.cons)).sp (b := 32) (by decide)
    have h2 : LX (sym op :: 32 :: (b.text ++ 41 :: l)) ((3, [sym op], 0) :: (b.toks ++ (3, [41], 0) :: ts)) := h1.sym (by unfold sym; rcases (show op = 0 ∨ op = 1 ∨ op = 2 ∨ op = 3 by omega) with rfl | rfl | rfl | rfl <;> decide)
    have h3 := (iha ha (h2.sp (b := 32) (by decide)) .cons).sym (b := 40)
    simpa [text, toks] using h3
  | call0 x =>
    intro l ts h hs
    have := ((h.sym (b := 41)).sym (b := 40)).ident .cons ht
    simpa [text, toks] using this
  | call1 x a ih =>
    intro l ts h hs
    have := ((ih ht.2 (h.sym (b := 41)) .cons).sym (b := 40)).ident .cons ht.1
    simpa [text, toks] using this
  | call2 x a b iha ihb =>
    intro l ts h hs
    have h1 := (((ihb ht.2.2 (h.sym (b := 41)) .cons).sp (b := 32) (by decide)).sym (b := 44))
    have := ((iha ht.2.1 h1 .cons).sym (b := 40)).ident .cons ht.1
    simpa [text, toks] using this
  | call3 x a b c iha ihb ihc =>
    intro l ts h hs
    have h0 := (((ihc ht.2.2.2 (h.sym (b := 41)) .cons).sp (b := 32) (by decide)).sym (b := 44))
    have h1 := (((ihb ht.2.2.1 h0 .cons).sp (b := 32) (by decide)).sym (b := 44))
    have := ((iha ht.2.1 h1 .cons).sym (b := 40)).ident .cons ht.1
    simpa [text, toks] using this
theorem text_len {t : ET} (ht : t.ok) : t.text.length ≤ 14 * t.size := by
  induction t with
  | num n => have := numF_len8 (show n ≤ 2559999 from ht); simp only [text, size]; omega
  | name x => have := (ident_name ht).2.1; simp only [text, size]; omega
  | neg t ih => have := ih ht; simp [text, size]; omega
  | bin op a b iha ihb => have := iha ht.2.1; have := ihb ht.2.2; simp [text, size]; omega
  | call0 x => have := (ident_name ht).2.1; simp [text, size]; omega
  | call1 x a ih => have := ih ht.2; have := (ident_name ht.1).2.1; simp [text, size]; omega
  | call2 x a b iha ihb => have := iha ht.2.1; have := ihb ht.2.2; have := (ident_name ht.1).2.1; simp [text, size]; omega
  | call3 x a b c iha ihb ihc => have := iha ht.2.1; have := ihb ht.2.2.1; have := ihc ht.2.2.2; have := (ident_name ht.1).2.1; simp [text, size]; omega
end ET
theorem PE.eq {T : List ETok} {m : PM} {d a : Nat} {ns : List ENode} {v v' : Int} {a1 a2 : Nat} {n1 n2 : List ENode} (h : PE T m d a ns (.ok v a1 n1)) (e1 : v = v') (e2 : a1 = a2) (e3 : n1 = n2) : PE T m d a ns (.ok v' a2 n2) := by subst e1; subst e2; subst e3; exact h
/-- What comes next is no operator. -/
def Stop (T : List ETok) (a : Nat) : Prop := opS true (pk T a) = 0 ∧ opS false (pk T a) = 0
theorem Stop.of {T : List ETok} {a : Nat} {s : List UInt8} (h : pk T a = s) (hs : opS true s = 0 ∧ opS false s = 0 := by decide) : Stop T a := by unfold Stop; rw [h]; exact hs
theorem PE.exp {T : List ETok} {d a a1 : Nat} {ns n1 : List ENode} {v : Int} (h : PE T .fac d a ns (.ok v a1 n1)) (hs : Stop T a1) : PE T (.bin true) d a ns (.ok v a1 n1) :=
  .bin (add := true) (.bin (add := false) h (.stop hs.2)) (.stop hs.1)
theorem ET.first (t : ET) : ∃ x y, t.toks = x :: y ∧ ∀ v, x ≠ (3, [41], v) := by
  cases t <;> exact ⟨_, _, rfl, fun v => by simp⟩
theorem first_not {T : List ETok} {a : Nat} {t : ET} (h : Seg T a t.toks) : ¬ (([] : List Int) = [] ∧ pk T a = [41]) := by
  obtain ⟨⟨k, s, u⟩, y, hx, hne⟩ := t.first
  rw [hx] at h
  have h0 := h.cons.1
  rintro ⟨_, hp⟩
  by_cases hk : k = 3
  · subst hk
    rw [pk_sym h0] at hp
    subst hp
    exact hne u rfl
  · rw [pk_no h0 hk] at hp
    cases hp
namespace ET
/-- The nodes that the parser makes of the tree's text. -/
theorem parse {t : ET} (ht : t.ok) : ∀ (T : List ETok) (d a : Nat) (ns : List ENode), Seg T a t.toks → d + 2 * t.size ≤ 66 → ns.length + t.size ≤ 60 → pk T (a + t.toks.length) ≠ [40] →
    PE T .fac d a ns (.ok ((ns.length + t.size - 1 : Nat) : Int) (a + t.toks.length) (ns ++ t.nodes ns.length)) := by
  induction t with
  | num n =>
    intro T d a ns hT hd hl hn
    exact PE.num (hT 0 (by simp [toks])) (by simp [size] at hd; omega) (by simp [size] at hl; omega)
  | name x =>
    intro T d a ns hT hd hl hn
    exact PE.name (hT 0 (by simp [toks])) (by simp [size] at hd; omega) (by simp [size] at hl; omega) hn
  | neg t ih =>
    intro T d a ns hT hd hl hn
    simp only [size] at hd hl
    obtain ⟨t0, hT⟩ := hT.cons
    obtain ⟨t1, hT⟩ := hT.cons
    obtain ⟨hT, hc⟩ := hT.app
    have hc := pk_sym (hc 0 (by simp))
    simp only [Nat.add_zero] at hc
    have h1 := ih ht T (d + 2) (a + 1 + 1) ns hT (by omega) (by omega) (by rw [hc]; decide)
    have hp := t.size_pos
    have h2 := PE.neg (pk_sym t1) (by omega) h1 (by rw [List.length_append, nodes_len]; omega)
    exact (PE.par (pk_sym t0) (by omega) (h2.exp (.of hc)) hc).eq (by simp [nodes_len, size] <;> omega) (by simp [toks]; omega) (by simp [nodes])
  | bin op a b iha ihb =>
    intro T d s ns hT hd hl hn
    simp only [size] at hd hl
    obtain ⟨ho, ha, hb⟩ := ht
    obtain ⟨t0, hT⟩ := hT.cons
    obtain ⟨hTa, hT⟩ := hT.app
    obtain ⟨t1, hT⟩ := hT.cons
    obtain ⟨hTb, hc⟩ := hT.app
    have hc := pk_sym (hc 0 (by simp))
    simp only [Nat.add_zero] at hc
    have hpa := a.size_pos
    have hpb := b.size_pos
    have ho1 := pk_sym t1
    have h1 := iha ha T (d + 1) (s + 1) ns hTa (by omega) (by omega) (by rw [ho1]; unfold sym; rcases (show op = 0 ∨ op = 1 ∨ op = 2 ∨ op = 3 by omega) with rfl | rfl | rfl | rfl <;> decide)
    have h2 := ihb hb T (d + 1) (s + 1 + a.toks.length + 1) (ns ++ a.nodes ns.length) hTb (by omega) (by rw [List.length_append, nodes_len]; omega) (by rw [hc]; decide)
    have hs := Stop.of hc
    have hn1 : (ns ++ a.nodes ns.length ++ b.nodes (ns ++ a.nodes ns.length).length).length < 60 := by simp only [List.length_append, nodes_len]; omega
    have key : PE T (.bin true) (d + 1) (s + 1) ns (.ok ((ns.length + (a.size + b.size + 1) - 1 : Nat) : Int) (s + 1 + a.toks.length + 1 + b.toks.length) (ns ++ (bin op a b).nodes ns.length)) := by
      rcases (show op = 0 ∨ op = 1 ∨ op = 2 ∨ op = 3 by omega) with rfl | rfl | rfl | rfl
      · refine ((PE.bin (add := true) (PE.bin (add := false) h1 (.stop (by rw [ho1]; decide))) (PE.go (by rw [ho1]; decide) (PE.bin (add := false) h2 (.stop hs.2)) hn1 (.stop hs.1)))).eq ?_ rfl ?_
        · simp [nodes_len] <;> omega
        · rw [ho1]; simp [nodes, nodes_len, sym, opS]
      · refine ((PE.bin (add := true) (PE.bin (add := false) h1 (.stop (by rw [ho1]; decide))) (PE.go (by rw [ho1]; decide) (PE.bin (add := false) h2 (.stop hs.2)) hn1 (.stop hs.1)))).eq ?_ rfl ?_
        · simp [nodes_len] <;> omega
        · rw [ho1]; simp [nodes, nodes_len, sym, opS]
      · refine ((PE.bin (add := true) (PE.bin (add := false) h1 (PE.go (by rw [ho1]; decide) h2 hn1 (.stop hs.2))) (.stop hs.1))).eq ?_ rfl ?_
        · simp [nodes_len] <;> omega
        · rw [ho1]; simp [nodes, nodes_len, sym, opS]
      · refine ((PE.bin (add := true) (PE.bin (add := false) h1 (PE.go (by rw [ho1]; decide) h2 hn1 (.stop hs.2))) (.stop hs.1))).eq ?_ rfl ?_
        · simp [nodes_len] <;> omega
        · rw [ho1]; simp [nodes, nodes_len, sym, opS]
    exact (PE.par (pk_sym t0) (by omega) key hc).eq (by simp [size]) (by simp [toks]; omega) rfl
  | call0 x =>
    intro T d a ns hT hd hl hn
    simp only [size] at hd hl
    obtain ⟨t0, hT⟩ := hT.cons
    obtain ⟨t1, hT⟩ := hT.cons
    obtain ⟨t2, hT⟩ := hT.cons
    exact (PE.call t0 (by omega) (pk_sym t1) (PE.args0 (pk_sym t2) (by omega))).eq (by simp [size]) (by simp [toks]) (by simp [nodes])
  | call1 x a ih =>
    intro T d s ns hT hd hl hn
    simp only [size] at hd hl
    obtain ⟨t0, hT⟩ := hT.cons
    obtain ⟨t1, hT⟩ := hT.cons
    obtain ⟨hT, hc⟩ := hT.app
    have hc := pk_sym (hc 0 (by simp))
    simp only [Nat.add_zero] at hc
    have hp := a.size_pos
    have h1 := (ih ht.2 T (d + 1) (s + 1 + 1) ns hT (by omega) (by omega) (by rw [hc]; decide)).exp (.of hc)
    have h2 := PE.last (s := x) (l := []) (first_not hT) (by decide) h1 hc (by rw [List.length_append, nodes_len]; omega)
    exact (PE.call t0 (by omega) (pk_sym t1) h2).eq (by simp [nodes_len, size] <;> omega) (by simp [toks]; omega) (by simp [nodes])
  | call2 x a b iha ihb =>
    intro T d s ns hT hd hl hn
    simp only [size] at hd hl
    obtain ⟨t0, hT⟩ := hT.cons
    obtain ⟨t1, hT⟩ := hT.cons
    obtain ⟨hTa, hT⟩ := hT.app
    obtain ⟨t2, hT⟩ := hT.cons
    obtain ⟨hTb, hc⟩ := hT.app
    have hc := pk_sym (hc 0 (by simp))
    simp only [Nat.add_zero] at hc
    have hm := pk_sym t2
    have hpa := a.size_pos
    have hpb := b.size_pos
    have h1 := (iha ht.2.1 T (d + 1) (s + 1 + 1) ns hTa (by omega) (by omega) (by rw [hm]; decide)).exp (.of hm)
    have h2 := (ihb ht.2.2 T (d + 1) (s + 1 + 1 + a.toks.length + 1) (ns ++ a.nodes ns.length) hTb (by omega) (by rw [List.length_append, nodes_len]; omega) (by rw [hc]; decide)).exp (.of hc)
    have h3 := PE.last (s := x) (l := [((ns.length + a.size - 1 : Nat) : Int)]) (by simp) (by simp) h2 hc (by simp only [List.length_append, nodes_len]; omega)
    have h4 := PE.more (s := x) (l := []) (first_not hTa) (by decide) h1 hm h3
    exact (PE.call t0 (by omega) (pk_sym t1) h4).eq (by simp [nodes_len, size] <;> omega) (by simp [toks]; omega) (by simp [nodes, nodes_len])
  | call3 x a b c iha ihb ihc =>
    intro T d s ns hT hd hl hn
    simp only [size] at hd hl
    obtain ⟨t0, hT⟩ := hT.cons
    obtain ⟨t1, hT⟩ := hT.cons
    obtain ⟨hTa, hT⟩ := hT.app
    obtain ⟨t2, hT⟩ := hT.cons
    obtain ⟨hTb, hT⟩ := hT.app
    obtain ⟨t3, hT⟩ := hT.cons
    obtain ⟨hTc, hc⟩ := hT.app
    have hc := pk_sym (hc 0 (by simp))
    simp only [Nat.add_zero] at hc
    have hm := pk_sym t2
    have hm2 := pk_sym t3
    have hpa := a.size_pos
    have hpb := b.size_pos
    have hpc := c.size_pos
    have h1 := (iha ht.2.1 T (d + 1) (s + 1 + 1) ns hTa (by omega) (by omega) (by rw [hm]; decide)).exp (.of hm)
    have h2 := (ihb ht.2.2.1 T (d + 1) (s + 1 + 1 + a.toks.length + 1) (ns ++ a.nodes ns.length) hTb (by omega) (by rw [List.length_append, nodes_len]; omega) (by rw [hm2]; decide)).exp (.of hm2)
    have h3 := (ihc ht.2.2.2 T (d + 1) (s + 1 + 1 + a.toks.length + 1 + b.toks.length + 1) (ns ++ a.nodes ns.length ++ b.nodes (ns ++ a.nodes ns.length).length) hTc (by omega) (by simp only [List.length_append, nodes_len]; omega) (by rw [hc]; decide)).exp (.of hc)
    have h4 := PE.last (s := x) (l := [((ns.length + a.size - 1 : Nat) : Int), (((ns ++ a.nodes ns.length).length + b.size - 1 : Nat) : Int)]) (by simp) (by simp) h3 hc (by simp only [List.length_append, nodes_len]; omega)
    have h5 := PE.more (s := x) (l := [((ns.length + a.size - 1 : Nat) : Int)]) (by simp) (by simp) h2 hm2 h4
    have h6 := PE.more (s := x) (l := []) (first_not hTa) (by decide) h1 hm h5
    exact (PE.call t0 (by omega) (pk_sym t1) h6).eq (by simp [nodes_len, size] <;> omega) (by simp [toks]; omega) (by simp [nodes, nodes_len, Nat.add_assoc])
end ET
end Go.Proofs.YtnlbojckobgjpaaGreatDoor

/- Plain: programs made of trees: they are valid, their text is the trees', and it is parsed to the same program. No program in sight. -/
namespace Go.Proofs.YtnlbojckobgjpaaGreatDoor
open Go.RowKit Go.Lib
abbrev EL := List (List UInt8 × ET)
def nodesL : EL → Nat → List ENode
  | [], _ => []
  | x :: r, s => x.2.nodes s ++ nodesL r (s + x.2.size)
def asgL : EL → Nat → List EAssign
  | [], _ => []
  | x :: r, s => (x.1, ((s + x.2.size - 1 : Nat) : Int)) :: asgL r (s + x.2.size)
def sizeL : EL → Nat
  | [] => 0
  | x :: r => x.2.size + sizeL r
def textL : EL → List UInt8
  | [] => []
  | x :: r => x.1 ++ [32, 61, 32] ++ x.2.text ++ [59, 10] ++ textL r
def toksL : EL → List TK
  | [] => []
  | x :: r => (2, x.1, 0) :: (3, [61], 0) :: (x.2.toks ++ (3, [59], 0) :: toksL r)
def okL (L : EL) : Prop := ∀ x ∈ L, isIdent x.1 = true ∧ x.2.ok
theorem okL.tail {x : List UInt8 × ET} {r : EL} (h : okL (x :: r)) : okL r := fun y hy => h y (by simp [hy])
theorem okL.head {x : List UInt8 × ET} {r : EL} (h : okL (x :: r)) : isIdent x.1 = true ∧ x.2.ok := h x (by simp)
def progOf (L : EL) : EProg := (nodesL L 0, asgL L 0)
theorem nodesL_len : ∀ (L : EL) (s : Nat), (nodesL L s).length = sizeL L
  | [], _ => rfl
  | x :: r, s => by simp [nodesL, sizeL, ET.nodes_len, nodesL_len r]
theorem asgL_len : ∀ (L : EL) (s : Nat), (asgL L s).length = L.length
  | [], _ => rfl
  | x :: r, s => by simp [asgL, asgL_len r]
theorem textL_lex : ∀ (L : EL), okL L → LX (textL L) (toksL L)
  | [], _ => .nil
  | x :: r, h => by
    have h0 := ((textL_lex r h.tail).sp (b := 10) (by decide)).sym (b := 59)
    have h1 := (((ET.lex h.head.2 h0 .cons).sp (b := 32) (by decide)).sym (b := 61)).sp (b := 32) (by decide)
    have := h1.ident .cons h.head.1
    simpa [textL, toksL] using this
theorem textL_len : ∀ (L : EL), okL L → (textL L).length ≤ 13 * L.length + 14 * sizeL L
  | [], _ => Nat.zero_le _
  | x :: r, h => by
    have h1 := textL_len r h.tail
    have h2 := ET.text_len h.head.2
    have h3 := (ident_name h.head.1).2.1
    simp [textL, sizeL]; omega
theorem kd_lt {T : List ETok} {i : Nat} (h : kd T i ≠ 0) : i < T.length := by
  rcases Nat.lt_or_ge i T.length with h' | h'
  · exact h'
  · unfold kd tk at h
    rw [List.getD_eq_getElem?_getD, List.getElem?_eq_none h'] at h
    exact absurd rfl h
theorem asg_go {T : List ETok} (hT : TokOk T) {n a a1 : Nat} {ns n1 : List ENode} {l : List EAssign} {x : List UInt8} {u v : Int} (h0 : tkOf (tk T a) = (2, x, u)) (h1 : pk T (a + 1) = [61]) (k : PE T (.bin true) 1 (a + 2) ns (.ok v a1 n1)) (h2 : pk T a1 = [59]) :
    asg T (fuelT T) (n + 1) a ns l = asg T (fuelT T) n (a1 + 1) n1 (l ++ [(x, v)]) := by
  obtain ⟨k0, k1, k2⟩ := kd_of h0
  have hin : a < T.length := kd_lt (by rw [k0]; decide)
  have hin1 : a + 1 < T.length := kd_in hT hin (by rw [k0]; decide)
  have hin2 : a + 1 + 1 < T.length := pk_in hT hin1 (by rw [h1]; decide)
  have he := prs_ends hT (fuelT T) (.bin true) 1 (a + 2) ns hin2 (by show 3 + _ ≤ 4 * T.length + 8; omega)
  rw [asg, if_neg (by rw [k0]; decide), if_neg (by rw [k0]; decide), if_neg (by rw [h1]; decide), k.at_ he.1, k1]
  show (if pk T a1 = [59] then _ else _) = _
  rw [if_pos h2]
theorem asg_all {T : List ETok} (hT : TokOk T) : ∀ (L : EL) (a n : Nat) (ns : List ENode) (l : List EAssign) (e : TK), okL L → e.1 = 0 → Seg T a (toksL L ++ [e]) → sizeL L ≤ 31 → ns.length + sizeL L ≤ 60 → L.length < n →
    asg T (fuelT T) n a ns l = some (.ok (ns ++ nodesL L ns.length, l ++ asgL L ns.length))
  | [], a, n, ns, l, e, hok, he, hs, h1, h2, h3 => by
    obtain ⟨n, rfl⟩ : ∃ m, n = m + 1 := ⟨n - 1, by simp at h3; omega⟩
    have h0 := (kd_of (k := e.1) (s := e.2.1) (v := e.2.2) (hs 0 (by simp [toksL]))).1
    rw [asg, if_pos (by rw [← he]; exact h0)]
    simp [nodesL, asgL]
  | x :: r, a, n, ns, l, e, hok, he, hs, h1, h2, h3 => by
    obtain ⟨n, rfl⟩ : ∃ m, n = m + 1 := ⟨n - 1, by simp at h3; omega⟩
    simp only [sizeL, List.length_cons] at h1 h2 h3
    have hs' : Seg T a ((2, x.1, 0) :: (3, [61], 0) :: (x.2.toks ++ (3, [59], 0) :: (toksL r ++ [e]))) := by simpa [toksL] using hs
    obtain ⟨t0, hs'⟩ := hs'.cons
    obtain ⟨t1, hs'⟩ := hs'.cons
    obtain ⟨hx, hs'⟩ := hs'.app
    obtain ⟨t2, hr⟩ := hs'.cons
    have hc := pk_sym t2
    have hp := x.2.size_pos
    have k := (ET.parse hok.head.2 T 1 (a + 1 + 1) ns hx (by omega) (by omega) (by rw [hc]; decide)).exp (.of hc)
    rw [asg_go hT t0 (pk_sym t1) k hc, asg_all hT r _ n _ _ e hok.tail he hr (by omega) (by rw [List.length_append, ET.nodes_len]; omega) (by omega)]
    simp [nodesL, asgL, ET.nodes_len]
/-- The text is parsed to the program. -/
theorem parse_textL {L : EL} (h : okL L) (hs : sizeL L ≤ 31) (hl : L.length ≤ 20) : parF (textL L) = (progOf L, -1) := by
  have hlen := textL_len L h
  obtain ⟨r, h1, h2⟩ := (textL_lex L h).toksF (by omega)
  have hT := toksF_ok h1
  have hseg : Seg (r ++ [((0 : Int), ([] : List UInt8), (0 : Int), ((textL L).length : Int))]) 0 (toksL L ++ [(0, [], 0)]) := by
    have := Seg.of (r := r ++ [((0 : Int), ([] : List UInt8), (0 : Int), ((textL L).length : Int))]) (e := (0, [], 0, 0)) (ts := toksL L ++ [(0, [], 0)]) (by rw [List.map_append, h2]; rfl)
    intro j hj
    have hj' : j < (r ++ [((0 : Int), ([] : List UInt8), (0 : Int), ((textL L).length : Int))]).length := by
      have e : r.length = (toksL L).length := by rw [← h2]; simp
      simp at hj ⊢; omega
    rw [← this j hj]
    unfold tk
    simp only [Nat.zero_add, List.getD_eq_getElem?_getD]
    rw [List.getElem?_append_left hj']
  have hn : ∀ (L : EL), L.length ≤ (toksL L).length := by
    intro L
    induction L with
    | nil => exact Nat.zero_le _
    | cons x q ih => simp [toksL]; omega
  have hrl : L.length ≤ r.length := by
    have := hn L
    rw [← h2] at this
    simpa using this
  unfold parF
  rw [h1]
  show parT _ = _
  unfold parT
  rw [asg_all hT L 0 _ [] [] (0, [], 0) h rfl hseg hs (by simp; omega) (by simp; omega)]
  simp [progOf]
/-! It is valid. -/
def okFrom (s : Nat) (l : List ENode) : Prop := ∀ (i : Nat) (h : i < l.length), okNode (s + i) l[i] = true
theorem okFrom.app {s : Nat} {x y : List ENode} (h1 : okFrom s x) (h2 : okFrom (s + x.length) y) : okFrom s (x ++ y) := by
  intro i hi
  rcases Nat.lt_or_ge i x.length with h | h
  · rw [List.getElem_append_left h]; exact h1 i h
  · rw [List.getElem_append_right h]
    have := h2 (i - x.length) (by simp at hi; omega)
    rwa [show s + x.length + (i - x.length) = s + i by omega] at this
theorem okFrom.one {s : Nat} {x : ENode} (h : okNode s x = true) : okFrom s [x] := by
  intro i hi
  obtain rfl : i = 0 := by simp at hi; omega
  exact h
theorem inB_nat {a k : Nat} (h : a < k) : inB (a : Int) 0 ((k : Int) - 1) = true := by
  unfold inB
  simp; omega
theorem okFrom.app' {s s2 : Nat} {x y : List ENode} (h1 : okFrom s x) (h2 : okFrom s2 y) (e : s2 = s + x.length) : okFrom s (x ++ y) := h1.app (e ▸ h2)
theorem ET.ok_nodes {t : ET} (ht : t.ok) : ∀ s, okFrom s (t.nodes s) := by
  induction t with
  | num n =>
    intro s
    refine .one ?_
    have hn : n ≤ 2559999 := ht
    have : inB (n : Int) 0 2559999 = true := by unfold inB; simp; omega
    simp [okNode, okFields, namedOp, okShape, argsOk, this]
  | name x => intro s; refine .one ?_; have hx : isIdent x = true := ht; simp [okNode, okFields, namedOp, okShape, argsOk, hx]
  | neg t ih =>
    intro s
    have hp := t.size_pos
    refine (ih ht s).app' (s2 := s + t.size) (.one ?_) (by rw [nodes_len])
    have h1 : inB ((s + t.size - 1 : Nat) : Int) 0 (((s + t.size : Nat) : Int) - 1) = true := inB_nat (by omega)
    generalize ((s + t.size - 1 : Nat) : Int) = u at *
    simp [okNode, okFields, namedOp, okShape, argsOk, h1]
    simpa using h1
  | bin op a b iha ihb =>
    intro s
    obtain ⟨ho, ha, hb⟩ := ht
    have hpa := a.size_pos
    have hpb := b.size_pos
    refine ((iha ha s).app' (ihb hb (s + a.size)) (by rw [nodes_len])).app' (s2 := s + a.size + b.size) (.one ?_) (by simp only [List.length_append, nodes_len]; omega)
    have h1 : inB ((s + a.size - 1 : Nat) : Int) 0 (((s + a.size + b.size : Nat) : Int) - 1) = true := inB_nat (by omega)
    have h2 : inB ((s + a.size + b.size - 1 : Nat) : Int) 0 (((s + a.size + b.size : Nat) : Int) - 1) = true := inB_nat (by omega)
    generalize ((s + a.size - 1 : Nat) : Int) = u at *
    generalize ((s + a.size + b.size - 1 : Nat) : Int) = v at *
    generalize (s + a.size + b.size : Nat) = k at *
    unfold okNode argsOk
    rw [List.all_cons, List.all_cons, List.all_nil, h1, h2]
    rcases (show op = 0 ∨ op = 1 ∨ op = 2 ∨ op = 3 by omega) with rfl | rfl | rfl | rfl <;> simp [okFields, namedOp, okShape]
  | call0 x => intro s; refine .one ?_; have hx : isIdent x = true := ht; simp [okNode, okFields, namedOp, okShape, argsOk, hx]
  | call1 x a iha =>
    intro s
    have hpa := a.size_pos
    refine (iha ht.2 s).app' (s2 := s + a.size) (.one ?_) (by rw [nodes_len])
    have h1 : inB ((s + a.size - 1 : Nat) : Int) 0 (((s + a.size : Nat) : Int) - 1) = true := inB_nat (by omega)
    generalize ((s + a.size - 1 : Nat) : Int) = u at *
    unfold okNode argsOk
    rw [List.all_cons, List.all_nil, h1]
    simp [okFields, namedOp, okShape, ht.1]
  | call2 x a b iha ihb =>
    intro s
    have hpa := a.size_pos
    have hpb := b.size_pos
    refine ((iha ht.2.1 s).app' (ihb ht.2.2 (s + a.size)) (by rw [nodes_len])).app' (s2 := s + a.size + b.size) (.one ?_) (by simp only [List.length_append, nodes_len]; omega)
    have h1 : inB ((s + a.size - 1 : Nat) : Int) 0 (((s + a.size + b.size : Nat) : Int) - 1) = true := inB_nat (by omega)
    have h2 : inB ((s + a.size + b.size - 1 : Nat) : Int) 0 (((s + a.size + b.size : Nat) : Int) - 1) = true := inB_nat (by omega)
    generalize ((s + a.size - 1 : Nat) : Int) = u at *
    generalize ((s + a.size + b.size - 1 : Nat) : Int) = v at *
    generalize (s + a.size + b.size : Nat) = k at *
    unfold okNode argsOk
    rw [List.all_cons, List.all_cons, List.all_nil, h1, h2]
    simp [okFields, namedOp, okShape, ht.1]
  | call3 x a b c iha ihb ihc =>
    intro s
    have hpa := a.size_pos
    have hpb := b.size_pos
    have hpc := c.size_pos
    refine (((iha ht.2.1 s).app' (ihb ht.2.2.1 (s + a.size)) (by rw [nodes_len])).app' (ihc ht.2.2.2 (s + a.size + b.size)) (by simp only [List.length_append, nodes_len]; omega)).app' (s2 := s + a.size + b.size + c.size) (.one ?_) (by simp only [List.length_append, nodes_len]; omega)
    have h1 : inB ((s + a.size - 1 : Nat) : Int) 0 (((s + a.size + b.size + c.size : Nat) : Int) - 1) = true := inB_nat (by omega)
    have h2 : inB ((s + a.size + b.size - 1 : Nat) : Int) 0 (((s + a.size + b.size + c.size : Nat) : Int) - 1) = true := inB_nat (by omega)
    have h3 : inB ((s + a.size + b.size + c.size - 1 : Nat) : Int) 0 (((s + a.size + b.size + c.size : Nat) : Int) - 1) = true := inB_nat (by omega)
    generalize ((s + a.size - 1 : Nat) : Int) = u at *
    generalize ((s + a.size + b.size - 1 : Nat) : Int) = v at *
    generalize ((s + a.size + b.size + c.size - 1 : Nat) : Int) = y at *
    generalize (s + a.size + b.size + c.size : Nat) = k at *
    unfold okNode argsOk
    rw [List.all_cons, List.all_cons, List.all_cons, List.all_nil, h1, h2, h3]
    simp [okFields, namedOp, okShape, ht.1]
theorem okL_nodes : ∀ (L : EL), okL L → ∀ s, okFrom s (nodesL L s)
  | [], _, s => fun i hi => absurd hi (by simp [nodesL])
  | x :: r, h, s => (ET.ok_nodes h.head.2 s).app' (okL_nodes r h.tail (s + x.2.size)) (by rw [ET.nodes_len])
def gN (l : List ENode) : List (List Nat) := l.map fun x => x.2.2.2.map Int.toNat
theorem cnt_split (x s m n : Nat) : (List.range' s (m + n)).count x = (List.range' s m).count x + (List.range' (s + m) n).count x := by
  rw [← List.count_append, List.range'_append_1]
theorem cnt_one (x s : Nat) : (List.range' s 1).count x = [s].count x := rfl
theorem ET.cnt (t : ET) (x : Nat) : ∀ s, (gN (t.nodes s)).flatten.count x + [s + t.size - 1].count x = (List.range' s t.size).count x := by
  induction t with
  | num n | name y | call0 y => intro s; simp [nodes, gN, size]
  | neg t ih | call1 y t ih =>
    intro s
    have := ih s
    have h1 := cnt_split x s t.size 1
    rw [cnt_one] at h1
    simp only [nodes, gN, size, List.map_append, List.flatten_append, List.count_append, List.map_cons, List.map_nil, List.flatten_cons, List.flatten_nil, List.append_nil, Int.toNat_natCast] at *
    rw [show s + (t.size + 1) - 1 = s + t.size by omega]
    omega
  | bin op a b iha ihb | call2 y a b iha ihb =>
    intro s
    have h1 := iha s
    have h2 := ihb (s + a.size)
    have h3 := cnt_split x s (a.size + b.size) 1
    have h4 := cnt_split x s a.size b.size
    rw [cnt_one] at h3
    simp only [nodes, gN, size, List.map_append, List.flatten_append, List.count_append, List.map_cons, List.map_nil, List.flatten_cons, List.flatten_nil, List.append_nil, Int.toNat_natCast] at *
    rw [show s + (a.size + b.size + 1) - 1 = s + (a.size + b.size) by omega, show [s + a.size - 1, s + a.size + b.size - 1] = [s + a.size - 1] ++ [s + a.size + b.size - 1] from rfl, List.count_append]
    omega
  | call3 y a b c iha ihb ihc =>
    intro s
    have h1 := iha s
    have h2 := ihb (s + a.size)
    have h5 := ihc (s + a.size + b.size)
    have h3 := cnt_split x s (a.size + b.size + c.size) 1
    have h4 := cnt_split x s (a.size + b.size) c.size
    have h6 := cnt_split x s a.size b.size
    rw [cnt_one] at h3
    rw [← Nat.add_assoc] at h4
    simp only [nodes, gN, size, List.map_append, List.flatten_append, List.count_append, List.map_cons, List.map_nil, List.flatten_cons, List.flatten_nil, List.append_nil, Int.toNat_natCast] at *
    rw [show s + (a.size + b.size + c.size + 1) - 1 = s + (a.size + b.size + c.size) by omega, show [s + a.size - 1, s + a.size + b.size - 1, s + a.size + b.size + c.size - 1] = [s + a.size - 1] ++ [s + a.size + b.size - 1] ++ [s + a.size + b.size + c.size - 1] from rfl, List.count_append, List.count_append]
    omega
theorem cntL_all (x : Nat) : ∀ (L : EL) (s : Nat), (gN (nodesL L s)).flatten.count x + ((asgL L s).map fun y => y.2.toNat).count x = (List.range' s (sizeL L)).count x
  | [], s => by simp [nodesL, asgL, sizeL, gN]
  | y :: r, s => by
    have h1 := cntL_all x r (s + y.2.size)
    have h2 := y.2.cnt x s
    have h3 := cnt_split x s y.2.size (sizeL r)
    simp only [nodesL, asgL, sizeL, gN, List.map_append, List.flatten_append, List.count_append, List.map_cons, Int.toNat_natCast] at *
    rw [show ∀ l : List Nat, (s + y.2.size - 1) :: l = [s + y.2.size - 1] ++ l from fun l => rfl, List.count_append]
    omega
theorem asgL_ok : ∀ (L : EL), okL L → ∀ (s n : Nat), s + sizeL L ≤ n → ∀ x ∈ asgL L s, okAssign n x = true
  | [], _, s, n, _, x, hx => by simp [asgL] at hx
  | y :: r, h, s, n, hn, x, hx => by
    simp only [sizeL] at hn
    rcases List.mem_cons.1 hx with rfl | hx
    · have hp := y.2.size_pos
      unfold okAssign
      rw [h.head.1, inB_nat (by omega)]; rfl
    · exact asgL_ok r h.tail (s + y.2.size) n (by omega) x hx
theorem valid_progOf {L : EL} (h : okL L) (hs : sizeL L ≤ 60) : validP (progOf L) = true := by
  have e1 : (progOf L).1.length = sizeL L := nodesL_len L 0
  unfold validP
  simp only [Bool.and_eq_true, decide_eq_true_eq]
  refine ⟨⟨⟨by omega, ?_⟩, ?_⟩, ?_⟩
  · unfold nodesTo
    rw [List.take_length, List.all_eq_true]
    intro x hx
    obtain ⟨i, hi, rfl⟩ := List.getElem_of_mem hx
    have := okL_nodes L h 0 i (by rw [List.length_zipIdx] at hi; exact hi)
    rw [Nat.zero_add] at this
    have e : (progOf L).1.zipIdx[i] = ((nodesL L 0)[i]'(by rw [List.length_zipIdx] at hi; exact hi), i) := by rw [List.getElem_zipIdx, Nat.zero_add]; rfl
    rw [e]; exact this
  · unfold assignsTo
    rw [List.take_length, List.all_eq_true]
    intro x hx
    exact asgL_ok L h 0 _ (by omega) x hx
  · rw [List.all_eq_true]
    intro x hx
    have hx := List.mem_range.1 hx
    have := cntL_all x L 0
    rw [← List.range_eq_range', count_range, if_pos (by omega)] at this
    simp only [beq_iff_eq]
    unfold usesP
    rw [List.count_append]
    exact this
/-! Its text. -/
theorem textP_node {p : EProg} (h : nodesTo p p.1.length = true) {X Y : List ENode} {x : ENode} (e : p.1 = X ++ x :: Y) : textP p X.length = nodeT x (x.2.2.2.map fun (a : Int) => textP p a.toNat) := by
  have hk : X.length < p.1.length := by rw [e]; simp
  have hx : p.1[X.length] = x := by simp [e]
  rw [textP_eq h hk, hx]
theorem ET.text_at {p : EProg} (h : nodesTo p p.1.length = true) {t : ET} (ht : t.ok) : ∀ (X Y : List ENode), p.1 = X ++ t.nodes X.length ++ Y → textP p (X.length + t.size - 1) = t.text := by
  induction t with
  | num n => intro X Y e; exact (textP_node h (x := (1, [], (n : Int), [])) (Y := Y) (by rw [e]; simp [nodes])).trans (by simp [nodeT, text])
  | name x => intro X Y e; exact (textP_node h (x := (2, x, 0, [])) (Y := Y) (by rw [e]; simp [nodes])).trans (by simp [nodeT, text])
  | call0 x => intro X Y e; exact (textP_node h (x := (8, x, 0, [])) (Y := Y) (by rw [e]; simp [nodes])).trans (by simp [nodeT, text, join])
  | neg t ih =>
    intro X Y e
    have h1 := ih ht X ((3, [], 0, [((X.length + t.size - 1 : Nat) : Int)]) :: Y) (by rw [e]; simp [nodes])
    have h2 := textP_node h (x := (3, [], 0, [((X.length + t.size - 1 : Nat) : Int)])) (Y := Y) (X := X ++ t.nodes X.length) (by rw [e]; simp [nodes])
    rw [List.length_append, nodes_len] at h2
    rw [show X.length + (neg t).size - 1 = X.length + t.size by simp [size] <;> omega, h2]
    simp [nodeT, text, h1]
  | call1 x t ih =>
    intro X Y e
    have h1 := ih ht.2 X ((8, x, 0, [((X.length + t.size - 1 : Nat) : Int)]) :: Y) (by rw [e]; simp [nodes])
    have h2 := textP_node h (x := (8, x, 0, [((X.length + t.size - 1 : Nat) : Int)])) (Y := Y) (X := X ++ t.nodes X.length) (by rw [e]; simp [nodes])
    rw [List.length_append, nodes_len] at h2
    rw [show X.length + (call1 x t).size - 1 = X.length + t.size by simp [size] <;> omega, h2]
    simp [nodeT, text, h1, join]
  | bin op a b iha ihb =>
    intro X Y e
    have h1 := iha ht.2.1 X (b.nodes (X.length + a.size) ++ (4 + (op : Int), [], 0, [((X.length + a.size - 1 : Nat) : Int), ((X.length + a.size + b.size - 1 : Nat) : Int)]) :: Y) (by rw [e]; simp [nodes])
    have h2 := ihb ht.2.2 (X ++ a.nodes X.length) ((4 + (op : Int), [], 0, [((X.length + a.size - 1 : Nat) : Int), ((X.length + a.size + b.size - 1 : Nat) : Int)]) :: Y) (by rw [e]; simp [nodes, nodes_len])
    have h3 := textP_node h (x := (4 + (op : Int), [], 0, [((X.length + a.size - 1 : Nat) : Int), ((X.length + a.size + b.size - 1 : Nat) : Int)])) (Y := Y) (X := X ++ a.nodes X.length ++ b.nodes (X.length + a.size)) (by rw [e]; simp [nodes])
    simp only [List.length_append, nodes_len] at h2 h3
    rw [show X.length + (bin op a b).size - 1 = X.length + a.size + b.size by simp [size]; omega, h3]
    rcases (show op = 0 ∨ op = 1 ∨ op = 2 ∨ op = 3 by have := ht.1; omega) with rfl | rfl | rfl | rfl <;> simp [nodeT, text, h1, h2, opB, sym]
  | call2 x a b iha ihb =>
    intro X Y e
    have h1 := iha ht.2.1 X (b.nodes (X.length + a.size) ++ (8, x, 0, [((X.length + a.size - 1 : Nat) : Int), ((X.length + a.size + b.size - 1 : Nat) : Int)]) :: Y) (by rw [e]; simp [nodes])
    have h2 := ihb ht.2.2 (X ++ a.nodes X.length) ((8, x, 0, [((X.length + a.size - 1 : Nat) : Int), ((X.length + a.size + b.size - 1 : Nat) : Int)]) :: Y) (by rw [e]; simp [nodes, nodes_len])
    have h3 := textP_node h (x := (8, x, 0, [((X.length + a.size - 1 : Nat) : Int), ((X.length + a.size + b.size - 1 : Nat) : Int)])) (Y := Y) (X := X ++ a.nodes X.length ++ b.nodes (X.length + a.size)) (by rw [e]; simp [nodes])
    simp only [List.length_append, nodes_len] at h2 h3
    rw [show X.length + (call2 x a b).size - 1 = X.length + a.size + b.size by simp [size]; omega, h3]
    simp [nodeT, text, h1, h2, join]
  | call3 x a b c iha ihb ihc =>
    intro X Y e
    have h1 := iha ht.2.1 X (b.nodes (X.length + a.size) ++ (c.nodes (X.length + a.size + b.size) ++ (8, x, 0, [((X.length + a.size - 1 : Nat) : Int), ((X.length + a.size + b.size - 1 : Nat) : Int), ((X.length + a.size + b.size + c.size - 1 : Nat) : Int)]) :: Y)) (by rw [e]; simp [nodes])
    have h2 := ihb ht.2.2.1 (X ++ a.nodes X.length) (c.nodes (X.length + a.size + b.size) ++ (8, x, 0, [((X.length + a.size - 1 : Nat) : Int), ((X.length + a.size + b.size - 1 : Nat) : Int), ((X.length + a.size + b.size + c.size - 1 : Nat) : Int)]) :: Y) (by rw [e]; simp [nodes, nodes_len])
    have h4 := ihc ht.2.2.2 (X ++ a.nodes X.length ++ b.nodes (X.length + a.size)) ((8, x, 0, [((X.length + a.size - 1 : Nat) : Int), ((X.length + a.size + b.size - 1 : Nat) : Int), ((X.length + a.size + b.size + c.size - 1 : Nat) : Int)]) :: Y) (by rw [e]; simp [nodes, nodes_len, Nat.add_assoc])
    have h3 := textP_node h (x := (8, x, 0, [((X.length + a.size - 1 : Nat) : Int), ((X.length + a.size + b.size - 1 : Nat) : Int), ((X.length + a.size + b.size + c.size - 1 : Nat) : Int)])) (Y := Y) (X := X ++ a.nodes X.length ++ b.nodes (X.length + a.size) ++ c.nodes (X.length + a.size + b.size)) (by rw [e]; simp [nodes])
    simp only [List.length_append, nodes_len] at h2 h3 h4
    rw [show X.length + (call3 x a b c).size - 1 = X.length + a.size + b.size + c.size by simp [size]; omega, h3]
    simp [nodeT, text, h1, h2, h4, join]
theorem textL_at {p : EProg} (h : nodesTo p p.1.length = true) : ∀ (L : EL), okL L → ∀ (X : List ENode), p.1 = X ++ nodesL L X.length → ((asgL L X.length).map (assT p)).flatten = textL L
  | [], _, X, e => rfl
  | y :: r, hk, X, e => by
    have h1 := textL_at h r hk.tail (X ++ y.2.nodes X.length) (by rw [e]; simp [nodesL, ET.nodes_len])
    have h2 := ET.text_at h hk.head.2 X (nodesL r (X.length + y.2.size)) (by rw [e]; simp [nodesL])
    rw [List.length_append, ET.nodes_len] at h1
    simp [asgL, textL, assT, h1, h2]
theorem progT_progOf {L : EL} (h : okL L) (hs : sizeL L ≤ 60) : progT (progOf L) = textL L := by
  unfold progT progTo
  rw [List.take_length]
  exact textL_at (valid_nodes (valid_progOf h hs)) L h [] rfl
end Go.Proofs.YtnlbojckobgjpaaGreatDoor

/- Plain: texts with operators in a row: they are parsed to some tree of a known size. No program in sight. -/
namespace Go.Proofs.YtnlbojckobgjpaaGreatDoor
open Go.RowKit Go.Lib
def rootN (s : Nat) (t : ET) : Int := ((s + t.size - 1 : Nat) : Int)
/-- The tokens are a factor of k nodes, D deep. -/
def Fac (l : List TK) (k D : Nat) : Prop := ∀ (T : List ETok) (d a : Nat) (ns : List ENode), Seg T a l → d + D ≤ 64 → ns.length + k ≤ 60 → pk T (a + l.length) ≠ [40] →
  ∃ t : ET, t.ok ∧ t.size = k ∧ PE T .fac d a ns (.ok (rootN ns.length t) (a + l.length) (ns ++ t.nodes ns.length))
abbrev Link := UInt8 × List TK × Nat
def flatR (r : List Link) : List TK := r.flatMap fun x => (3, [x.1], 0) :: x.2.1
def wR : List Link → Nat
  | [] => 0
  | x :: r => x.2.2 + 1 + wR r
def OpT (c : UInt8) : Prop := c = 43 ∨ c = 45 ∨ c = 42 ∨ c = 47
def okR (r : List Link) (D : Nat) : Prop := ∀ x ∈ r, OpT x.1 ∧ Fac x.2.1 x.2.2 D
def Hd (l : List TK) : Prop := ∃ x y, l = x :: y ∧ ∀ v, x ≠ (3, [41], v)
def Chn (l : List TK) (k D : Nat) : Prop := ∃ l0 k0 r, l = l0 ++ flatR r ∧ Fac l0 k0 D ∧ Hd l0 ∧ okR r D ∧ k = k0 + wR r
theorem Fac.mono {l : List TK} {k D D' : Nat} (h : Fac l k D) (hD : D ≤ D') : Fac l k D' := fun T d a ns hT hd hl hn => h T d a ns hT (by omega) hl hn
theorem okR.mono {r : List Link} {D D' : Nat} (h : okR r D) (hD : D ≤ D') : okR r D' := fun x hx => ⟨(h x hx).1, (h x hx).2.mono hD⟩
theorem Chn.mono {l : List TK} {k D D' : Nat} (h : Chn l k D) (hD : D ≤ D') : Chn l k D' := by
  obtain ⟨l0, k0, r, e, h1, h2, h3, h4⟩ := h
  exact ⟨l0, k0, r, e, h1.mono hD, h2, h3.mono hD, h4⟩
theorem flatR_cons (x : Link) (r : List Link) : flatR (x :: r) = (3, [x.1], 0) :: (x.2.1 ++ flatR r) := by simp [flatR]
theorem flatR_app (x y : List Link) : flatR (x ++ y) = flatR x ++ flatR y := by simp [flatR]
theorem wR_app : ∀ (x y : List Link), wR (x ++ y) = wR x + wR y
  | [], y => by simp [wR]
  | a :: x, y => by simp only [List.cons_append, wR, wR_app x y]; omega
/-- What may come behind: no operator, no open bracket. -/
def Stp (T : List ETok) (a : Nat) : Prop := Stop T a ∧ pk T a ≠ [40]
theorem Stp.of {T : List ETok} {a : Nat} {s : List UInt8} (h : pk T a = s) (hs : (opS true s = 0 ∧ opS false s = 0) ∧ s ≠ [40] := by decide) : Stp T a := by unfold Stp Stop; rw [h]; exact hs
theorem next_no {T : List ETok} {a : Nat} {r : List Link} {D : Nat} (hr : okR r D) (h : Seg T a (flatR r)) (hs : Stp T (a + (flatR r).length)) : pk T a ≠ [40] := by
  match r with
  | [] => exact hs.2
  | x :: r =>
    rw [flatR_cons] at h
    rw [pk_sym h.cons.1]
    intro hc
    have e : x.1 = 40 := by simpa using hc
    have := (hr x (by simp)).1
    unfold OpT at this
    rw [e] at this
    rcases this with h | h | h | h <;> exact absurd h (by decide)
theorem okR.tail {x : Link} {r : List Link} {D : Nat} (h : okR (x :: r) D) : okR r D := fun y hy => h y (by simp [hy])
/-- Which operator. -/
theorem OpT.cases {c : UInt8} (h : OpT c) : (opS false [c] = 0 ∧ ∃ op : Nat, op < 4 ∧ opS true [c] = 4 + (op : Int)) ∨ (∃ op : Nat, op < 4 ∧ opS false [c] = 4 + (op : Int)) := by
  rcases h with rfl | rfl | rfl | rfl
  · exact .inl ⟨by decide, 0, by decide, by decide⟩
  · exact .inl ⟨by decide, 1, by decide, by decide⟩
  · exact .inr ⟨2, by decide, by decide⟩
  · exact .inr ⟨3, by decide, by decide⟩
theorem bin_nodes (op : Nat) (a b : ET) (s : Nat) : (ET.bin op a b).nodes s = a.nodes s ++ b.nodes (s + a.size) ++ [(4 + (op : Int), [], 0, [rootN s a, rootN (s + a.size) b])] := rfl
theorem mulLoop {D : Nat} : ∀ (r : List Link), okR r D → ∀ (T : List ETok) (d a : Nat) (ns0 : List ENode) (t : ET), t.ok → Seg T a (flatR r) → d + D ≤ 64 → ns0.length + t.size + wR r ≤ 60 → Stp T (a + (flatR r).length) →
    ∃ (t' : ET) (r' : List Link) (a' : Nat), t'.ok ∧ okR r' D ∧ r'.length ≤ r.length ∧ t'.size + wR r' = t.size + wR r ∧ a' + (flatR r').length = a + (flatR r).length ∧ Seg T a' (flatR r') ∧ opS false (pk T a') = 0 ∧
      PE T (.loop false (rootN ns0.length t)) d a (ns0 ++ t.nodes ns0.length) (.ok (rootN ns0.length t') a' (ns0 ++ t'.nodes ns0.length))
  | [], hr, T, d, a, ns0, t, ht, hT, hd, hl, hs => ⟨t, [], a, ht, hr, Nat.le_refl _, rfl, rfl, hT, hs.1.2, .stop hs.1.2⟩
  | x :: r, hr, T, d, a, ns0, t, ht, hT, hd, hl, hs => by
    have hT0 := hT
    have hs0 := hs
    rw [flatR_cons] at hT hs
    obtain ⟨t0, hT⟩ := hT.cons
    obtain ⟨hTx, hT⟩ := hT.app
    have hp := pk_sym t0
    obtain ⟨hop, hf⟩ := hr x (by simp)
    rcases hop.cases with ⟨h0, _⟩ | ⟨op, ho, h1⟩
    · exact ⟨t, x :: r, a, ht, hr, Nat.le_refl _, rfl, rfl, hT0, by rw [hp]; exact h0, .stop (by rw [hp]; exact h0)⟩
    · simp only [wR] at hl
      simp only [List.length_cons, List.length_append] at hs
      have hs' : Stp T (a + 1 + x.2.1.length + (flatR r).length) := by rw [show a + 1 + x.2.1.length + (flatR r).length = a + (x.2.1.length + (flatR r).length + 1) by omega]; exact hs
      obtain ⟨tf, hf1, hf2, hf3⟩ := hf T d (a + 1) (ns0 ++ t.nodes ns0.length) hTx (by omega) (by rw [List.length_append, ET.nodes_len]; omega) (next_no hr.tail hT hs')
      have hsz : (ET.bin op t tf).size = t.size + tf.size + 1 := rfl
      obtain ⟨t', r', a', g1, g2, g3, g4, g5, g6, g7, g8⟩ := mulLoop r hr.tail T d (a + 1 + x.2.1.length) ns0 (ET.bin op t tf) ⟨ho, ht, hf1⟩ hT hd (by rw [hsz]; omega) hs'
      refine ⟨t', r', a', g1, g2, by simp; omega, by simp only [wR]; omega, by rw [flatR_cons]; simp only [List.length_cons, List.length_append]; omega, g6, g7, ?_⟩
      refine PE.go (by rw [hp, h1]; omega) hf3 (by simp only [List.length_append, ET.nodes_len]; omega) ?_
      rw [hp, h1]
      have e1 : (((ns0 ++ t.nodes ns0.length ++ tf.nodes (ns0 ++ t.nodes ns0.length).length).length : Nat) : Int) = rootN ns0.length (ET.bin op t tf) := by unfold rootN; simp only [List.length_append, ET.nodes_len]; congr 1; omega
      have e2 : ns0 ++ t.nodes ns0.length ++ tf.nodes (ns0 ++ t.nodes ns0.length).length ++ [(4 + (op : Int), [], 0, [rootN ns0.length t, rootN (ns0 ++ t.nodes ns0.length).length tf])] = ns0 ++ (ET.bin op t tf).nodes ns0.length := by
        rw [bin_nodes, List.length_append, ET.nodes_len]; simp only [List.append_assoc]
      rw [e1, e2]
      exact g8
theorem addLoop {D : Nat} : ∀ (n : Nat) (r : List Link), r.length ≤ n → okR r D → ∀ (T : List ETok) (d a : Nat) (ns0 : List ENode) (t : ET), t.ok → Seg T a (flatR r) → d + D ≤ 64 → ns0.length + t.size + wR r ≤ 60 → Stp T (a + (flatR r).length) → opS false (pk T a) = 0 →
    ∃ t' : ET, t'.ok ∧ t'.size = t.size + wR r ∧ PE T (.loop true (rootN ns0.length t)) d a (ns0 ++ t.nodes ns0.length) (.ok (rootN ns0.length t') (a + (flatR r).length) (ns0 ++ t'.nodes ns0.length))
  | n, [], hn, hr, T, d, a, ns0, t, ht, hT, hd, hl, hs, hm => ⟨t, ht, rfl, .stop hs.1.1⟩
  | 0, x :: r, hn, hr, T, d, a, ns0, t, ht, hT, hd, hl, hs, hm => by simp at hn
  | n + 1, x :: r, hn, hr, T, d, a, ns0, t, ht, hT, hd, hl, hs, hm => by
    rw [flatR_cons] at hT hs
    obtain ⟨t0, hT⟩ := hT.cons
    obtain ⟨hTx, hT⟩ := hT.app
    have hp := pk_sym t0
    obtain ⟨hop, hf⟩ := hr x (by simp)
    rw [hp] at hm
    rcases hop.cases with ⟨_, op, ho, h1⟩ | ⟨op, ho, h1⟩
    · simp only [wR] at hl
      simp only [List.length_cons, List.length_append] at hs hn
      have hs' : Stp T (a + 1 + x.2.1.length + (flatR r).length) := by rw [show a + 1 + x.2.1.length + (flatR r).length = a + (x.2.1.length + (flatR r).length + 1) by omega]; exact hs
      have hq : (ns0 ++ t.nodes ns0.length).length = ns0.length + t.size := by rw [List.length_append, ET.nodes_len]
      obtain ⟨tf, hf1, hf2, hf3⟩ := hf T d (a + 1) (ns0 ++ t.nodes ns0.length) hTx (by omega) (by omega) (next_no hr.tail hT hs')
      obtain ⟨t2, r', a', g1, g2, g3, g4, g5, g6, g7, g8⟩ := mulLoop r hr.tail T d (a + 1 + x.2.1.length) (ns0 ++ t.nodes ns0.length) tf hf1 hT hd (by omega) hs'
      have hsz : (ET.bin op t t2).size = t.size + t2.size + 1 := rfl
      obtain ⟨t', k1, k2, k3⟩ := addLoop n r' (by omega) g2 T d a' ns0 (ET.bin op t t2) ⟨ho, ht, g1⟩ g6 hd (by rw [hsz]; omega) (by rw [g5]; exact hs') g7
      refine ⟨t', k1, by simp only [wR]; omega, ?_⟩
      have e0 : a + (flatR (x :: r)).length = a' + (flatR r').length := by rw [flatR_cons, g5]; simp only [List.length_cons, List.length_append]; omega
      rw [e0]
      refine PE.go (by rw [hp, h1]; omega) (PE.bin (add := false) hf3 g8) (by simp only [List.length_append, ET.nodes_len]; omega) ?_
      rw [hp, h1]
      have e1 : (((ns0 ++ t.nodes ns0.length ++ t2.nodes (ns0 ++ t.nodes ns0.length).length).length : Nat) : Int) = rootN ns0.length (ET.bin op t t2) := by unfold rootN; simp only [List.length_append, ET.nodes_len]; congr 1; omega
      have e2 : ns0 ++ t.nodes ns0.length ++ t2.nodes (ns0 ++ t.nodes ns0.length).length ++ [(4 + (op : Int), [], 0, [rootN ns0.length t, rootN (ns0 ++ t.nodes ns0.length).length t2])] = ns0 ++ (ET.bin op t t2).nodes ns0.length := by
        rw [bin_nodes, hq]; simp only [List.append_assoc]
      rw [e1, e2]
      exact k3
    · rw [h1] at hm; omega
/-- The tokens are an expression. -/
theorem Chn.exp {l : List TK} {k D : Nat} (h : Chn l k D) (T : List ETok) (d a : Nat) (ns : List ENode) (hT : Seg T a l) (hd : d + D ≤ 64) (hl : ns.length + k ≤ 60) (hs : Stp T (a + l.length)) :
    ∃ t : ET, t.ok ∧ t.size = k ∧ PE T (.bin true) d a ns (.ok (rootN ns.length t) (a + l.length) (ns ++ t.nodes ns.length)) := by
  obtain ⟨l0, k0, r, rfl, h1, h2, h3, rfl⟩ := h
  obtain ⟨hT0, hTr⟩ := hT.app
  rw [List.length_append, ← Nat.add_assoc] at hs
  obtain ⟨t0, f1, f2, f3⟩ := h1 T d a ns hT0 hd (by omega) (next_no h3 hTr hs)
  obtain ⟨t1, r', a', g1, g2, g3, g4, g5, g6, g7, g8⟩ := mulLoop r h3 T d (a + l0.length) ns t0 f1 hTr hd (by omega) hs
  obtain ⟨t2, k1, k2, k3⟩ := addLoop r'.length r' (Nat.le_refl _) g2 T d a' ns t1 g1 g6 hd (by omega) (by rw [g5]; exact hs) g7
  refine ⟨t2, k1, by omega, ?_⟩
  rw [List.length_append, ← Nat.add_assoc, ← g5]
  exact PE.bin (add := true) (PE.bin (add := false) f3 g8) k3
theorem Chn.first {l : List TK} {k D : Nat} (h : Chn l k D) {T : List ETok} {a : Nat} (hT : Seg T a l) : ¬ (([] : List Int) = [] ∧ pk T a = [41]) := by
  obtain ⟨l0, k0, r, rfl, h1, ⟨⟨q, s, u⟩, y, rfl, hne⟩, h3, rfl⟩ := h
  have h0 := hT.cons.1
  rintro ⟨_, hp⟩
  by_cases hk : q = 3
  · subst hk
    rw [pk_sym h0] at hp
    subst hp
    exact hne u rfl
  · rw [pk_no h0 hk] at hp
    cases hp
/-! What is a factor. -/
theorem Fac.num {s : List UInt8} {n : Nat} (hn : n ≤ 2559999) : Fac [(1, s, (n : Int))] 1 0 := fun T d a ns hT hd hl hp =>
  ⟨.num n, hn, rfl, PE.num (hT 0 (by simp)) (by omega) (by omega)⟩
theorem Fac.name {x : List UInt8} (hx : isIdent x = true) : Fac [(2, x, 0)] 1 0 := fun T d a ns hT hd hl hp =>
  ⟨.name x, hx, rfl, PE.name (hT 0 (by simp)) (by omega) (by omega) hp⟩
theorem Fac.neg {l : List TK} {k D : Nat} (h : Fac l k D) : Fac ((3, [45], 0) :: l) (k + 1) (D + 1) := fun T d a ns hT hd hl hp => by
  obtain ⟨t0, hT⟩ := hT.cons
  obtain ⟨t, h1, h2, h3⟩ := h T (d + 1) (a + 1) ns hT (by omega) (by omega) (by rw [show a + 1 + l.length = a + ((3, [45], 0) :: l : List TK).length by simp; omega]; exact hp)
  refine ⟨.neg t, h1, by simp [ET.size, h2], ?_⟩
  refine (PE.neg (pk_sym t0) (by omega) h3 (by rw [List.length_append, ET.nodes_len]; omega)).eq ?_ (by simp; omega) (by simp [ET.nodes, rootN])
  unfold rootN; simp only [List.length_append, ET.nodes_len, ET.size]; congr 1
theorem Fac.par {l : List TK} {k D : Nat} (h : Chn l k D) : Fac ((3, [40], 0) :: (l ++ [(3, [41], 0)])) k (D + 1) := fun T d a ns hT hd hl hp => by
  obtain ⟨t0, hT⟩ := hT.cons
  obtain ⟨hT, hc⟩ := hT.app
  have hc := pk_sym (hc 0 (by simp))
  simp only [Nat.add_zero] at hc
  obtain ⟨t, h1, h2, h3⟩ := h.exp T (d + 1) (a + 1) ns hT (by omega) (by omega) (.of hc)
  exact ⟨t, h1, h2, (PE.par (pk_sym t0) (by omega) h3 hc).eq rfl (by simp; omega) rfl⟩
theorem Fac.call1 {x : List UInt8} {l : List TK} {k D : Nat} (hx : isIdent x = true) (h : Chn l k D) : Fac ((2, x, 0) :: (3, [40], 0) :: (l ++ [(3, [41], 0)])) (k + 1) (D + 1) := fun T d a ns hT hd hl hp => by
  obtain ⟨t0, hT⟩ := hT.cons
  obtain ⟨t1, hT⟩ := hT.cons
  obtain ⟨hT, hc⟩ := hT.app
  have hc := pk_sym (hc 0 (by simp))
  simp only [Nat.add_zero] at hc
  obtain ⟨t, h1, h2, h3⟩ := h.exp T (d + 1) (a + 1 + 1) ns hT (by omega) (by omega) (.of hc)
  have h4 := PE.last (s := x) (l := []) (h.first hT) (by simp) h3 hc (by rw [List.length_append, ET.nodes_len]; omega)
  refine ⟨.call1 x t, ⟨hx, h1⟩, by simp [ET.size, h2], (PE.call t0 (by omega) (pk_sym t1) h4).eq ?_ (by simp; omega) (by simp [ET.nodes, rootN])⟩
  unfold rootN; simp only [List.length_append, ET.nodes_len, ET.size]; congr 1
theorem Fac.call2 {x : List UInt8} {l m : List TK} {k j D : Nat} (hx : isIdent x = true) (h : Chn l k D) (g : Chn m j D) : Fac ((2, x, 0) :: (3, [40], 0) :: (l ++ (3, [44], 0) :: (m ++ [(3, [41], 0)]))) (k + j + 1) (D + 1) := fun T d a ns hT hd hl hp => by
  obtain ⟨t0, hT⟩ := hT.cons
  obtain ⟨t1, hT⟩ := hT.cons
  obtain ⟨hTa, hT⟩ := hT.app
  obtain ⟨t2, hT⟩ := hT.cons
  obtain ⟨hTb, hc⟩ := hT.app
  have hc := pk_sym (hc 0 (by simp))
  simp only [Nat.add_zero] at hc
  have hm := pk_sym t2
  obtain ⟨u, h1, h2, h3⟩ := h.exp T (d + 1) (a + 1 + 1) ns hTa (by omega) (by omega) (.of hm)
  obtain ⟨v, g1, g2, g3⟩ := g.exp T (d + 1) (a + 1 + 1 + l.length + 1) (ns ++ u.nodes ns.length) hTb (by omega) (by rw [List.length_append, ET.nodes_len]; omega) (.of hc)
  have h4 := PE.last (s := x) (l := [rootN ns.length u]) (by simp) (by simp) g3 hc (by simp only [List.length_append, ET.nodes_len]; omega)
  have h5 := PE.more (s := x) (l := []) (h.first hTa) (by simp) h3 hm h4
  refine ⟨.call2 x u v, ⟨hx, h1, g1⟩, by simp [ET.size, h2, g2], (PE.call t0 (by omega) (pk_sym t1) h5).eq ?_ (by simp; omega) (by simp [ET.nodes, rootN, ET.nodes_len])⟩
  unfold rootN; simp only [List.length_append, ET.nodes_len, ET.size]; congr 1; omega
theorem Fac.call3 {x : List UInt8} {l m q : List TK} {k j i D : Nat} (hx : isIdent x = true) (h : Chn l k D) (g : Chn m j D) (f : Chn q i D) : Fac ((2, x, 0) :: (3, [40], 0) :: (l ++ (3, [44], 0) :: (m ++ (3, [44], 0) :: (q ++ [(3, [41], 0)])))) (k + j + i + 1) (D + 1) := fun T d a ns hT hd hl hp => by
  obtain ⟨t0, hT⟩ := hT.cons
  obtain ⟨t1, hT⟩ := hT.cons
  obtain ⟨hTa, hT⟩ := hT.app
  obtain ⟨t2, hT⟩ := hT.cons
  obtain ⟨hTb, hT⟩ := hT.app
  obtain ⟨t3, hT⟩ := hT.cons
  obtain ⟨hTc, hc⟩ := hT.app
  have hc := pk_sym (hc 0 (by simp))
  simp only [Nat.add_zero] at hc
  have hm := pk_sym t2
  have hm2 := pk_sym t3
  obtain ⟨u, h1, h2, h3⟩ := h.exp T (d + 1) (a + 1 + 1) ns hTa (by omega) (by omega) (.of hm)
  obtain ⟨v, g1, g2, g3⟩ := g.exp T (d + 1) (a + 1 + 1 + l.length + 1) (ns ++ u.nodes ns.length) hTb (by omega) (by rw [List.length_append, ET.nodes_len]; omega) (.of hm2)
  obtain ⟨y, f1, f2, f3⟩ := f.exp T (d + 1) (a + 1 + 1 + l.length + 1 + m.length + 1) (ns ++ u.nodes ns.length ++ v.nodes (ns ++ u.nodes ns.length).length) hTc (by omega) (by simp only [List.length_append, ET.nodes_len]; omega) (.of hc)
  have h4 := PE.last (s := x) (l := [rootN ns.length u, rootN (ns ++ u.nodes ns.length).length v]) (by simp) (by simp) f3 hc (by simp only [List.length_append, ET.nodes_len]; omega)
  have h5 := PE.more (s := x) (l := [rootN ns.length u]) (by simp) (by simp) g3 hm2 h4
  have h6 := PE.more (s := x) (l := []) (h.first hTa) (by simp) h3 hm h5
  refine ⟨.call3 x u v y, ⟨hx, h1, g1, f1⟩, by simp [ET.size, h2, g2, f2], (PE.call t0 (by omega) (pk_sym t1) h6).eq ?_ (by simp; omega) (by simp [ET.nodes, rootN, ET.nodes_len, Nat.add_assoc])⟩
  unfold rootN; simp only [List.length_append, ET.nodes_len, ET.size]; congr 1; omega
/-! What is an expression. -/
theorem Chn.fac {l : List TK} {k D : Nat} (h : Fac l k D) (hh : Hd l) : Chn l k D := ⟨l, k, [], by simp [flatR], h, hh, (fun x hx => by cases hx), rfl⟩
theorem Hd.cons {x : TK} {l : List TK} (h : ∀ v, x ≠ (3, [41], v) := by simp) : Hd (x :: l) := ⟨x, l, rfl, h⟩
theorem Hd.app {x y : List TK} (h : Hd x) : Hd (x ++ y) := by obtain ⟨a, l, rfl, h⟩ := h; exact ⟨a, _, rfl, h⟩
theorem Chn.bin {l m : List TK} {k j D : Nat} {c : UInt8} (h : Chn l k D) (g : Chn m j D) (hc : OpT c) : Chn (l ++ (3, [c], 0) :: m) (k + j + 1) D := by
  obtain ⟨l0, k0, r, rfl, h1, h2, h3, rfl⟩ := h
  obtain ⟨m0, j0, s, rfl, g1, g2, g3, rfl⟩ := g
  refine ⟨l0, k0, r ++ (c, m0, j0) :: s, by rw [flatR_app, flatR_cons]; simp, h1, h2, fun x hx => ?_, by rw [wR_app]; simp only [wR]; omega⟩
  rcases List.mem_append.1 hx with hx | hx
  · exact h3 x hx
  · rcases List.mem_cons.1 hx with rfl | hx
    · exact ⟨hc, g1⟩
    · exact g3 x hx
theorem Chn.neg {l : List TK} {k D : Nat} (h : Chn l k D) : Chn ((3, [45], 0) :: l) (k + 1) (D + 1) := by
  obtain ⟨l0, k0, r, rfl, h1, h2, h3, rfl⟩ := h
  exact ⟨(3, [45], 0) :: l0, k0 + 1, r, rfl, h1.neg, .cons, h3.mono (by omega), by omega⟩
end Go.Proofs.YtnlbojckobgjpaaGreatDoor

/- Plain: the texts that the reference draws: they are parsed. No program in sight. -/
namespace Go.Proofs.YtnlbojckobgjpaaGreatDoor
open Go.RowKit Go.Lib
theorem NumT.int {w : List UInt8} (h : ∀ b ∈ w, 48 ≤ b.toNat ∧ b.toNat ≤ 57) (hl : w.length ≤ 4) : NumT w (valD w * 256) := by
  intro l hs
  have hsp : spanN isDg (w ++ l) = w.length := DG.span_safe h hs.dg
  rw [numTok_int hsp (by omega) (fun hc => by
    rw [List.getElem?_append_right (Nat.le_refl _), Nat.sub_self, ← List.head?_eq_getElem?] at hc
    exact (hs 46 hc).2 rfl), List.take_left]
theorem NumT.dot {w f : List UInt8} (h : ∀ b ∈ w, 48 ≤ b.toNat ∧ b.toNat ≤ 57) (hl : w.length ≤ 4) (hf : ∀ b ∈ f, 48 ≤ b.toNat ∧ b.toNat ≤ 57) (h1 : 1 ≤ f.length ∧ f.length ≤ 4) : NumT (w ++ 46 :: f) (valD w * 256 + valD f * 256 / 10 ^ f.length) := by
  intro l hs
  have hsp : spanN isDg (w ++ (46 :: f ++ l)) = w.length := DG.span_safe h (fun b hb => by simp at hb; subst hb; decide)
  have hsp2 : spanN isDg (f ++ l) = f.length := DG.span_safe hf hs.dg
  have hdrop : (w ++ (46 :: f ++ l)).drop (w.length + 1) = f ++ l := by rw [← List.drop_drop, List.drop_left]; rfl
  rw [List.append_assoc, numTok_dot (p := f.length) hsp (by omega) (by rw [List.getElem?_append_right (Nat.le_refl _), Nat.sub_self]; rfl) (by rw [hdrop]; exact hsp2) (by omega), hdrop, List.take_left, List.take_left]
  simp only [List.length_append, List.length_cons, Option.some.injEq, Prod.mk.injEq, and_true]
  omega
/-- The text is an expression of at most n nodes, D deep, B long. -/
def TX (n D B : Nat) (s : List UInt8) : Prop := ∃ l k, k ≤ n ∧ Chn l k D ∧ (∀ rest ts, LX rest ts → Safe rest → LX (s ++ rest) (l ++ ts)) ∧ s.length ≤ B
theorem TX.mono {n D B n' D' B' : Nat} {s : List UInt8} (h : TX n D B s) (hn : n ≤ n') (hD : D ≤ D') (hB : B ≤ B') : TX n' D' B' s := by
  obtain ⟨l, k, h1, h2, h3, h4⟩ := h
  exact ⟨l, k, by omega, h2.mono hD, h3, by omega⟩
theorem TX.num {s : List UInt8} {v : Nat} (h : NumT s v) (hv : v ≤ 2559999) (hd : ∃ b r, s = b :: r ∧ isDg b = true) : TX 1 0 s.length s :=
  ⟨_, 1, Nat.le_refl _, .fac (.num (s := s) hv) .cons, fun rest ts hr hs => hr.num hs h hd, Nat.le_refl _⟩
theorem TX.name {s : List UInt8} (h : isIdent s = true) : TX 1 0 s.length s :=
  ⟨_, 1, Nat.le_refl _, .fac (.name h) .cons, fun rest ts hr hs => hr.ident hs h, Nat.le_refl _⟩
def leafs : List (List UInt8) := [[117], [118], [120], [121], [122], [49], [48, 46, 53], [50], [48, 46, 50, 53], [51, 46, 55, 53]]
theorem TX.zero : TX 1 0 1 [48] := TX.num (NumT.int (w := [48]) (by decide) (by decide)) (by decide) ⟨48, [], rfl, by decide⟩
theorem TX.one : TX 1 0 1 [49] := TX.num (NumT.int (w := [49]) (by decide) (by decide)) (by decide) ⟨49, [], rfl, by decide⟩
theorem TX.leaf {s : List UInt8} (h : s ∈ leafs) : TX 1 0 4 s := by
  simp only [leafs, List.mem_cons, List.not_mem_nil, or_false] at h
  rcases h with rfl | rfl | rfl | rfl | rfl | rfl | rfl | rfl | rfl | rfl
  · exact (TX.name (by decide)).mono (Nat.le_refl _) (Nat.le_refl _) (by decide)
  · exact (TX.name (by decide)).mono (Nat.le_refl _) (Nat.le_refl _) (by decide)
  · exact (TX.name (by decide)).mono (Nat.le_refl _) (Nat.le_refl _) (by decide)
  · exact (TX.name (by decide)).mono (Nat.le_refl _) (Nat.le_refl _) (by decide)
  · exact (TX.name (by decide)).mono (Nat.le_refl _) (Nat.le_refl _) (by decide)
  · exact TX.one.mono (Nat.le_refl _) (Nat.le_refl _) (by decide)
  · exact (TX.num (NumT.dot (w := [48]) (f := [53]) (by decide) (by decide) (by decide) (by decide)) (by decide) ⟨48, _, rfl, by decide⟩).mono (Nat.le_refl _) (Nat.le_refl _) (by decide)
  · exact (TX.num (NumT.int (w := [50]) (by decide) (by decide)) (by decide) ⟨50, [], rfl, by decide⟩).mono (Nat.le_refl _) (Nat.le_refl _) (by decide)
  · exact (TX.num (NumT.dot (w := [48]) (f := [50, 53]) (by decide) (by decide) (by decide) (by decide)) (by decide) ⟨48, _, rfl, by decide⟩).mono (Nat.le_refl _) (Nat.le_refl _) (by decide)
  · exact (TX.num (NumT.dot (w := [51]) (f := [55, 53]) (by decide) (by decide) (by decide) (by decide)) (by decide) ⟨51, _, rfl, by decide⟩).mono (Nat.le_refl _) (Nat.le_refl _) (by decide)
def opTs : List (List UInt8) := [[32, 43, 32], [45], [32, 42, 32], [42], [32, 47, 32]]
section
variable {n n' n'' D B B' B'' : Nat} {s t u : List UInt8}
theorem TX.bin {o : List UInt8} (h : TX n D B s) (g : TX n' D B' t) (ho : o ∈ opTs) : TX (n + n' + 1) D (B + 3 + B') (s ++ o ++ t) := by
  obtain ⟨l, k, h1, h2, h3, h4⟩ := h
  obtain ⟨m, j, g1, g2, g3, g4⟩ := g
  simp only [opTs, List.mem_cons, List.not_mem_nil, or_false] at ho
  have key : ∀ c : UInt8, OpT c → (∀ rest ts, LX rest ts → LX (o ++ rest) ((3, [c], 0) :: ts) ∧ Safe (o ++ rest)) → o.length ≤ 3 → TX (n + n' + 1) D (B + 3 + B') (s ++ o ++ t) := fun c hc hx hl =>
    ⟨_, _, by omega, h2.bin g2 hc, fun rest ts hr hs => by
      have := hx _ _ (g3 rest ts hr hs)
      have := h3 _ _ this.1 this.2
      simpa using this, by simp only [List.length_append]; omega⟩
  rcases ho with rfl | rfl | rfl | rfl | rfl
  · exact key 43 (by unfold OpT; simp) (fun rest ts hr => ⟨(((hr.sp (b := 32) (by decide)).sym (b := 43)).sp (b := 32) (by decide)), .cons⟩) (by decide)
  · exact key 45 (by unfold OpT; simp) (fun rest ts hr => ⟨hr.sym (b := 45), .cons⟩) (by decide)
  · exact key 42 (by unfold OpT; simp) (fun rest ts hr => ⟨(((hr.sp (b := 32) (by decide)).sym (b := 42)).sp (b := 32) (by decide)), .cons⟩) (by decide)
  · exact key 42 (by unfold OpT; simp) (fun rest ts hr => ⟨hr.sym (b := 42), .cons⟩) (by decide)
  · exact key 47 (by unfold OpT; simp) (fun rest ts hr => ⟨(((hr.sp (b := 32) (by decide)).sym (b := 47)).sp (b := 32) (by decide)), .cons⟩) (by decide)
theorem TX.par (h : TX n D B s) : TX n (D + 1) (B + 2) ([40] ++ s ++ [41]) := by
  obtain ⟨l, k, h1, h2, h3, h4⟩ := h
  exact ⟨_, _, h1, .fac (.par h2) .cons, fun rest ts hr hs => by simpa using (h3 _ _ (hr.sym (b := 41)) .cons).sym (b := 40), by simp; omega⟩
theorem TX.neg (h : TX n D B s) : TX (n + 1) (D + 1) (B + 1) ([45] ++ s) := by
  obtain ⟨l, k, h1, h2, h3, h4⟩ := h
  exact ⟨_, _, by omega, h2.neg, fun rest ts hr hs => by simpa using (h3 _ _ hr hs).sym (b := 45), by simp; omega⟩
theorem TX.call1 {x : List UInt8} (hx : isIdent x = true) (h : TX n D B s) : TX (n + 1) (D + 1) (B + x.length + 2) (x ++ [40] ++ s ++ [41]) := by
  obtain ⟨l, k, h1, h2, h3, h4⟩ := h
  exact ⟨_, _, by omega, .fac (.call1 hx h2) .cons, fun rest ts hr hs => by simpa using ((h3 _ _ (hr.sym (b := 41)) .cons).sym (b := 40)).ident .cons hx, by simp; omega⟩
/-- Two arguments; between them the text m: a comma, and a space or none. -/
theorem TX.call2 {x m : List UInt8} (hx : isIdent x = true) (hm : m = [44] ∨ m = [44, 32]) (h : TX n D B s) (g : TX n' D B' t) : TX (n + n' + 1) (D + 1) (B + B' + x.length + 4) (x ++ [40] ++ s ++ m ++ t ++ [41]) := by
  obtain ⟨l, k, h1, h2, h3, h4⟩ := h
  obtain ⟨q, j, g1, g2, g3, g4⟩ := g
  refine ⟨_, _, by omega, .fac (.call2 hx h2 g2) .cons, fun rest ts hr hs => ?_, by rcases hm with rfl | rfl <;> simp <;> omega⟩
  have e1 := g3 _ _ (hr.sym (b := 41)) .cons
  rcases hm with rfl | rfl
  · simpa using ((h3 _ _ (e1.sym (b := 44)) .cons).sym (b := 40)).ident .cons hx
  · simpa using ((h3 _ _ ((e1.sp (b := 32) (by decide)).sym (b := 44)) .cons).sym (b := 40)).ident .cons hx
theorem TX.call3 {x : List UInt8} (hx : isIdent x = true) (h : TX n D B s) (g : TX n' D B' t) (f : TX n'' D B'' u) : TX (n + n' + n'' + 1) (D + 1) (B + B' + B'' + x.length + 4) (x ++ [40] ++ s ++ [44] ++ t ++ [44] ++ u ++ [41]) := by
  obtain ⟨l, k, h1, h2, h3, h4⟩ := h
  obtain ⟨q, j, g1, g2, g3, g4⟩ := g
  obtain ⟨p, i, f1, f2, f3, f4⟩ := f
  refine ⟨_, _, by omega, .fac (.call3 hx h2 g2 f2) .cons, fun rest ts hr hs => ?_, by simp; omega⟩
  have e0 := (f3 _ _ (hr.sym (b := 41)) .cons).sym (b := 44)
  have e1 := (g3 _ _ e0 .cons).sym (b := 44)
  simpa using ((h3 _ _ e1 .cons).sym (b := 40)).ident .cons hx
end
/-! Assignments. -/
abbrev Asgn := List UInt8 × List TK × Nat
def flatA (as_ : List Asgn) : List TK := as_.flatMap fun x => (2, x.1, 0) :: (3, [61], 0) :: (x.2.1 ++ [(3, [59], 0)])
def sumA : List Asgn → Nat
  | [] => 0
  | x :: r => x.2.2 + sumA r
def okA (as_ : List Asgn) : Prop := ∀ x ∈ as_, isIdent x.1 = true ∧ Chn x.2.1 x.2.2 60
theorem sumA_app : ∀ (x y : List Asgn), sumA (x ++ y) = sumA x + sumA y
  | [], y => by simp [sumA]
  | a :: x, y => by simp only [List.cons_append, sumA, sumA_app x y]; omega
theorem asg_chn {T : List ETok} (hT : TokOk T) : ∀ (as_ : List Asgn) (a n : Nat) (ns : List ENode) (l : List EAssign) (e : TK), okA as_ → e.1 = 0 → Seg T a (flatA as_ ++ [e]) → ns.length + sumA as_ ≤ 60 → as_.length < n →
    ∃ L : EL, okL L ∧ L.length = as_.length ∧ sizeL L = sumA as_ ∧ asg T (fuelT T) n a ns l = some (.ok (ns ++ nodesL L ns.length, l ++ asgL L ns.length))
  | [], a, n, ns, l, e, hok, he, hs, h2, h3 => by
    obtain ⟨n, rfl⟩ : ∃ m, n = m + 1 := ⟨n - 1, by simp at h3; omega⟩
    have h0 := (kd_of (k := e.1) (s := e.2.1) (v := e.2.2) (hs 0 (by simp [flatA]))).1
    refine ⟨[], (fun x hx => by cases hx), rfl, rfl, ?_⟩
    rw [asg, if_pos (by rw [← he]; exact h0)]
    simp [nodesL, asgL]
  | x :: r, a, n, ns, l, e, hok, he, hs, h2, h3 => by
    obtain ⟨n, rfl⟩ : ∃ m, n = m + 1 := ⟨n - 1, by simp at h3; omega⟩
    simp only [sumA, List.length_cons] at h2 h3
    have hs' : Seg T a ((2, x.1, 0) :: (3, [61], 0) :: (x.2.1 ++ (3, [59], 0) :: (flatA r ++ [e]))) := by simpa [flatA] using hs
    obtain ⟨t0, hs'⟩ := hs'.cons
    obtain ⟨t1, hs'⟩ := hs'.cons
    obtain ⟨hx, hs'⟩ := hs'.app
    obtain ⟨t2, hr⟩ := hs'.cons
    have hc := pk_sym t2
    obtain ⟨o1, o2⟩ := hok x (by simp)
    obtain ⟨t, k1, k2, k3⟩ := o2.exp T 1 (a + 1 + 1) ns hx (by omega) (by omega) (.of hc)
    obtain ⟨L, g1, g2, g3, g4⟩ := asg_chn hT r _ n (ns ++ t.nodes ns.length) (l ++ [(x.1, rootN ns.length t)]) e (fun y hy => hok y (by simp [hy])) he hr (by rw [List.length_append, ET.nodes_len]; omega) (by omega)
    refine ⟨(x.1, t) :: L, fun y hy => ?_, by simp [g2], by simp only [sizeL, sumA]; omega, ?_⟩
    · rcases List.mem_cons.1 hy with rfl | hy
      · exact ⟨o1, k1⟩
      · exact g1 y hy
    · rw [asg_go hT t0 (pk_sym t1) k3 hc, g4]
      simp [nodesL, asgL, ET.nodes_len, rootN]
/-- The text is q assignments or fewer, of at most m nodes together, B long. -/
def PT (m q B : Nat) (s : List UInt8) : Prop := ∃ as_ : List Asgn, okA as_ ∧ as_.length ≤ q ∧ sumA as_ ≤ m ∧ (∀ rest ts, LX rest ts → LX (s ++ rest) (flatA as_ ++ ts)) ∧ s.length ≤ B ∧ (s ≠ [] → as_ ≠ [])
theorem PT.nil : PT 0 0 0 [] := ⟨[], (fun x hx => by cases hx), Nat.le_refl _, Nat.le_refl _, fun rest ts h => by simpa [flatA] using h, Nat.le_refl _, fun h => absurd rfl h⟩
theorem PT.mono {m q B m' q' B' : Nat} {s : List UInt8} (h : PT m q B s) (h1 : m ≤ m') (h2 : q ≤ q') (h3 : B ≤ B') : PT m' q' B' s := by
  obtain ⟨as_, a1, a2, a3, a4, a5, a6⟩ := h
  exact ⟨as_, a1, by omega, by omega, a4, by omega, a6⟩
/-- One more; behind it the text z: nothing or a newline. -/
theorem PT.snoc {m q B n D B' : Nat} {s x e z : List UInt8} (h : PT m q B s) (hx : isIdent x = true) (he : TX n D B' e) (hD : D ≤ 60) (hz : z = [] ∨ z = [10]) : PT (m + n) (q + 1) (B + x.length + B' + 5) (s ++ (x ++ [32, 61, 32]) ++ e ++ ([59] ++ z)) := by
  obtain ⟨as_, a1, a2, a3, a4, a5, a6⟩ := h
  obtain ⟨l, k, h1, h2, h3, h4⟩ := he
  refine ⟨as_ ++ [(x, l, k)], fun y hy => ?_, by simp; omega, by rw [sumA_app]; simp only [sumA]; omega, fun rest ts hr => ?_, by rcases hz with rfl | rfl <;> simp <;> omega, fun _ => by simp⟩
  · rcases List.mem_append.1 hy with hy | hy
    · exact a1 y hy
    · obtain rfl := List.mem_singleton.1 hy
      exact ⟨hx, h2.mono hD⟩
  · have e0 : LX (z ++ rest) ts := by
      rcases hz with rfl | rfl
      · exact hr
      · exact hr.sp (b := 10) (by decide)
    have e1 := ((h3 _ _ (e0.sym (b := 59)) .cons).sp (b := 32) (by decide)).sym (b := 61) |>.sp (b := 32) (by decide)
    have := a4 _ _ (e1.ident .cons hx)
    simpa [flatA] using this
theorem PT.parse {m q B : Nat} {s : List UInt8} (h : PT m q B s) (hm : m ≤ 60) (hq : q ≤ 100) (hB : B ≤ 2000) (hs : s ≠ []) : ∃ L : EL, okL L ∧ L ≠ [] ∧ L.length ≤ q ∧ sizeL L ≤ m ∧ parF s = (progOf L, -1) := by
  obtain ⟨as_, a1, a2, a3, a4, a5, a6⟩ := h
  have hx : LX s (flatA as_) := by simpa using a4 [] [] .nil
  obtain ⟨r, h1, h2⟩ := hx.toksF (by omega)
  have hT := toksF_ok h1
  have hseg : Seg (r ++ [((0 : Int), ([] : List UInt8), (0 : Int), (s.length : Int))]) 0 (flatA as_ ++ [(0, [], 0)]) := by
    have := Seg.of (r := r ++ [((0 : Int), ([] : List UInt8), (0 : Int), (s.length : Int))]) (e := (0, [], 0, 0)) (ts := flatA as_ ++ [(0, [], 0)]) (by rw [List.map_append, h2]; rfl)
    intro j hj
    have hj' : j < (r ++ [((0 : Int), ([] : List UInt8), (0 : Int), (s.length : Int))]).length := by
      have e : r.length = (flatA as_).length := by rw [← h2]; simp
      simp at hj ⊢; omega
    rw [← this j hj]
    unfold tk
    simp only [Nat.zero_add, List.getD_eq_getElem?_getD]
    rw [List.getElem?_append_left hj']
  have hn : ∀ (L : List Asgn), L.length ≤ (flatA L).length := by
    intro L
    induction L with
    | nil => exact Nat.zero_le _
    | cons x q ih => simp [flatA] at ih ⊢; omega
  have hrl : as_.length ≤ r.length := by
    have := hn as_
    rw [← h2] at this
    simpa using this
  obtain ⟨L, g1, g2, g3, g4⟩ := asg_chn hT as_ 0 ((r ++ [((0 : Int), ([] : List UInt8), (0 : Int), (s.length : Int))]).length + 1) [] [] (0, [], 0) a1 rfl hseg (by simp; omega) (by simp; omega)
  refine ⟨L, g1, fun e => ?_, by omega, by omega, ?_⟩
  · subst e
    have := a6 hs
    cases as_ with
    | nil => exact this rfl
    | cons x y => simp at g2
  · unfold parF
    rw [h1]
    show parT _ = _
    unfold parT
    rw [g4]
    simp [progOf]
/-- The bounds of an expression of a depth. -/
def bW : Nat → Nat
  | 0 => 1
  | n + 1 => 2 * bW n + 2
def bB : Nat → Nat
  | 0 => 4
  | n + 1 => 2 * bB n + 8
end Go.Proofs.YtnlbojckobgjpaaGreatDoor
