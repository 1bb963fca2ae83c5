/- Programs with marks in them. No program in sight, but for the types' numbers. -/
import Derived.Test.YtnlbojckobgjpaaDoorParM
import Derived.Test.YtnlbojckobgjpaaDoorMkTxt
namespace Go.Proofs.YtnlbojckobgjpaaDoor
open Go.RowKit Go.Lib
set_option linter.unusedVariables false
set_option linter.unusedSimpArgs false
set_option maxRecDepth 100000
def mk1 (k : Nat) (x : ENode) : ENode := ((k : Int), markT (k + 1), ((k + 2 : Nat) : Int), upFrom ((k + 3 : Nat) : Int) x.2.2.2.length)
def mkN : Nat → List ENode → List ENode
  | _, [] => []
  | k, x :: xs => mk1 k x :: mkN (k + 3 + x.2.2.2.length) xs
def szN : List ENode → Nat
  | [] => 0
  | x :: xs => 3 + x.2.2.2.length + szN xs
def mixN (k : Nat) (ns : List ENode) (m : Nat) : List ENode := (mkN k ns).take m ++ ns.drop m
theorem mkN_len (k : Nat) (ns : List ENode) : (mkN k ns).length = ns.length := by
  induction ns generalizing k with
  | nil => rfl
  | cons x xs ih => simp [mkN, ih]
theorem mixN_zero (k : Nat) (ns : List ENode) : mixN k ns 0 = ns := by simp [mixN]
theorem mixN_all (k : Nat) (ns : List ENode) : mixN k ns ns.length = mkN k ns := by
  unfold mixN
  rw [List.take_of_length_le (by rw [mkN_len]; exact Nat.le_refl _), List.drop_length, List.append_nil]
theorem mixN_cons (k : Nat) (x : ENode) (xs : List ENode) (m : Nat) : mixN k (x :: xs) (m + 1) = mk1 k x :: mixN (k + 3 + x.2.2.2.length) xs m := by simp [mixN, mkN]
theorem mixN_len (k : Nat) (ns : List ENode) (m : Nat) (hm : m ≤ ns.length) : (mixN k ns m).length = ns.length := by
  unfold mixN
  rw [List.length_append, List.length_take, List.length_drop, mkN_len]
  omega
theorem mixN_at {k : Nat} {ns : List ENode} {m : Nat} (hm : m < ns.length) : (mixN k ns m)[m]'(by rw [mixN_len _ _ _ (Nat.le_of_lt hm)]; exact hm) = ns[m] := by
  unfold mixN
  rw [List.getElem_append_right (by rw [List.length_take, mkN_len]; omega)]
  simp only [List.length_take, mkN_len, List.getElem_drop]
  congr 1
  omega
theorem mixN_succ {ns : List ENode} : ∀ {k m : Nat} (hm : m < ns.length), mixN k ns (m + 1) = (mixN k ns m).set m (mk1 (k + szN (ns.take m)) ns[m]) := by
  induction ns with
  | nil => intro k m hm; simp at hm
  | cons x xs ih =>
    intro k m hm
    cases m with
    | zero => simp [mixN, mkN, szN]
    | succ m =>
      have := ih (k := k + 3 + x.2.2.2.length) (m := m) (by simpa using hm)
      rw [mixN_cons, mixN_cons, List.set_cons_succ, this]
      congr 2
      simp only [List.take_succ_cons, szN, List.getElem_cons_succ]
      congr 1
      omega
theorem szN_succ {ns : List ENode} : ∀ {m : Nat} (hm : m < ns.length), szN (ns.take (m + 1)) = szN (ns.take m) + 3 + ns[m].2.2.2.length := by
  induction ns with
  | nil => intro m hm; simp at hm
  | cons x xs ih =>
    intro m hm
    cases m with
    | zero => simp [szN]
    | succ m =>
      have := ih (m := m) (by simpa using hm)
      simp only [List.take_succ_cons, szN, List.getElem_cons_succ] at this ⊢
      omega
theorem szN_le {ns : List ENode} {b : Nat} (h : ∀ x, x ∈ ns → x.2.2.2.length ≤ b) : szN ns ≤ ns.length * (3 + b) := by
  induction ns with
  | nil => simp [szN]
  | cons x xs ih =>
    have h1 := h x (by simp)
    have h2 := ih (fun y hy => h y (by simp [hy]))
    simp only [szN, List.length_cons, Nat.succ_mul]
    omega
def kA (k : Nat) (m : Nat) : Nat := k + 2 * m
def mkA1 (k : Nat) : EAssign := (markT k, ((k + 1 : Nat) : Int))
def mkA : Nat → List EAssign → List EAssign
  | _, [] => []
  | k, x :: xs => mkA1 k :: mkA (k + 2) xs
def mixA (k : Nat) (l : List EAssign) (m : Nat) : List EAssign := (mkA k l).take m ++ l.drop m
theorem mkA_len (k : Nat) (l : List EAssign) : (mkA k l).length = l.length := by
  induction l generalizing k with
  | nil => rfl
  | cons x xs ih => simp [mkA, ih]
theorem mixA_zero (k : Nat) (l : List EAssign) : mixA k l 0 = l := by simp [mixA]
theorem mixA_all (k : Nat) (l : List EAssign) : mixA k l l.length = mkA k l := by
  unfold mixA
  rw [List.take_of_length_le (by rw [mkA_len]; exact Nat.le_refl _), List.drop_length, List.append_nil]
theorem mixA_cons (k : Nat) (x : EAssign) (xs : List EAssign) (m : Nat) : mixA k (x :: xs) (m + 1) = mkA1 k :: mixA (k + 2) xs m := by simp [mixA, mkA]
theorem mixA_len (k : Nat) (l : List EAssign) (m : Nat) (hm : m ≤ l.length) : (mixA k l m).length = l.length := by
  unfold mixA
  rw [List.length_append, List.length_take, List.length_drop, mkA_len]
  omega
theorem mixA_succ {l : List EAssign} : ∀ {k m : Nat} (hm : m < l.length), mixA k l (m + 1) = (mixA k l m).set m (mkA1 (k + 2 * m)) := by
  induction l with
  | nil => intro k m hm; simp at hm
  | cons x xs ih =>
    intro k m hm
    cases m with
    | zero => simp [mixA, mkA]
    | succ m =>
      have := ih (k := k + 2) (m := m) (by simpa using hm)
      rw [mixA_cons, mixA_cons, List.set_cons_succ, this]
      congr 2
      simp only [mkA1]
      rw [show k + 2 + 2 * m = k + 2 * (m + 1) by omega]
theorem mkN_at {ns : List ENode} : ∀ {k m : Nat} (hm : m < ns.length), (mkN k ns)[m]'(by rw [mkN_len]; exact hm) = mk1 (k + szN (ns.take m)) ns[m] := by
  induction ns with
  | nil => intro k m hm; simp at hm
  | cons x xs ih =>
    intro k m hm
    cases m with
    | zero => simp [mkN, szN]
    | succ m =>
      have := ih (k := k + 3 + x.2.2.2.length) (m := m) (by simpa using hm)
      simp only [mkN, List.getElem_cons_succ, this, List.take_succ_cons, szN]
      congr 1
      omega
theorem mkA_at {l : List EAssign} : ∀ {k m : Nat} (hm : m < l.length), (mkA k l)[m]'(by rw [mkA_len]; exact hm) = mkA1 (k + 2 * m) := by
  induction l with
  | nil => intro k m hm; simp at hm
  | cons x xs ih =>
    intro k m hm
    cases m with
    | zero => simp [mkA]
    | succ m =>
      have := ih (k := k + 2) (m := m) (by simpa using hm)
      simp only [mkA, List.getElem_cons_succ, this]
      rw [show k + 2 + 2 * m = k + 2 * (m + 1) by omega]
theorem Grow.own_ {w : World} {base g size n c : Nat} {e : TypeId} {xs ds : List Value} (h : Own w g e (xs ++ ds)) (hl : xs.length = n * size) (hd : (xs ++ ds).length = c * size) (hb : base ≤ g) (hn : n ≤ c) (hc : c ≤ maxLen) : Grow w base e size (some ⟨g, 0, none⟩) n c xs := by
  refine ⟨hl, .inr ⟨g, c, ⟨xs ++ ds⟩, rfl, hb, h, hn, hc, hd, ?_⟩⟩
  show (xs ++ ds).take (n * size) = xs
  rw [← hl]; exact List.take_left' rfl
theorem Grow.open_ {w : World} {base n c size : Nat} {e : TypeId} {A : Option Addr} {xs : List Value} (h : Grow w base e size A n c xs) (hn : 0 < n) : ∃ g ds, A = some ⟨g, 0, none⟩ ∧ base ≤ g ∧ Own w g e (xs ++ ds) ∧ n ≤ c ∧ c ≤ maxLen ∧ (xs ++ ds).length = c * size := by
  rcases h.shape with ⟨_, h0, _⟩ | ⟨g, cur, rfl, h1, h2, h3, h4, h5, h6⟩
  · omega
  · refine ⟨g, cur.toList.drop (n * size), rfl, h1, ?_, h3, h4, ?_⟩
    · unfold Own
      rw [← h6, List.take_append_drop]
      exact h2
    · rw [← h6, List.take_append_drop]; exact h5
section
variable {w w' : World} {base : Nat} {NA : Option Addr} {nc : Nat} {ns : List ENode} {AA : Option Addr} {ac : Nat} {as_ : List EAssign}
theorem part_other {cs : List Value} {m i : Nat} {v0 v1 v2 : Value} (h : i ≠ m) : ((((cs.set (m * 4) v0).set (m * 4 + 1) v1).set (m * 4 + 2) v2).drop (i * 4)).take 4 = (cs.drop (i * 4)).take 4 := by
  refine List.ext_getElem? fun j => ?_
  rcases Nat.lt_or_ge j 4 with hj | hj
  · rw [List.getElem?_take_of_lt hj, List.getElem?_take_of_lt hj, List.getElem?_drop, List.getElem?_drop, List.getElem?_set_ne (by omega), List.getElem?_set_ne (by omega), List.getElem?_set_ne (by omega)]
  · rw [List.getElem?_eq_none (by rw [List.length_take]; omega), List.getElem?_eq_none (by rw [List.length_take]; omega)]
theorem part_same {cs : List Value} {m n : Nat} {v0 v1 v2 : Value} {A : Option Addr} {l c : Nat} (hl : cs.length = n * 4) (hm : m < n) (h3 : cs[m * 4 + 3]? = some (.slice A l c)) : ((((cs.set (m * 4) v0).set (m * 4 + 1) v1).set (m * 4 + 2) v2).drop (m * 4)).take 4 = [v0, v1, v2, .slice A l c] := by
  refine List.ext_getElem? fun j => ?_
  have hb : m * 4 + 3 < cs.length := by rw [hl]; omega
  rcases j with _ | _ | _ | _ | j
  · rw [List.getElem?_take_of_lt (by omega), List.getElem?_drop]
    show (((cs.set (m * 4) v0).set (m * 4 + 1) v1).set (m * 4 + 2) v2)[m * 4]? = _
    rw [List.getElem?_set_ne (by omega), List.getElem?_set_ne (by omega), List.getElem?_set_self (by omega)]; rfl
  · rw [List.getElem?_take_of_lt (by omega), List.getElem?_drop, List.getElem?_set_ne (by omega), List.getElem?_set_self (by rw [List.length_set]; omega)]; rfl
  · rw [List.getElem?_take_of_lt (by omega), List.getElem?_drop, List.getElem?_set_self (by simp only [List.length_set]; omega)]; rfl
  · rw [List.getElem?_take_of_lt (by omega), List.getElem?_drop, List.getElem?_set_ne (by omega), List.getElem?_set_ne (by omega), List.getElem?_set_ne (by omega), h3]; rfl
  · rw [List.getElem?_eq_none (by rw [List.length_take]; omega), List.getElem?_eq_none (by simp)]
/-- One node of a program, opened; and what a change of it leaves. -/
theorem ProgM.open_ (h : ProgM w base NA nc ns AA ac as_) {m : Nat} (hm : m < ns.length) : ∃ (g : Nat) (cs ds : List Value) (A : Option Addr) (c : Nat), NA = some ⟨g, 0, none⟩ ∧ base ≤ g ∧ Own w g 73 (cs ++ ds) ∧ cs.length = ns.length * 4 ∧ ns.length ≤ nc ∧ nc ≤ maxLen ∧
    (cs.drop (m * 4)).take 4 = [.int .i64 ns[m].1, str ns[m].2.1, .int .i64 ns[m].2.2.1, .slice A ns[m].2.2.2.length c] ∧ OwnS w 1 A ns[m].2.2.2.length c 3 (ints ns[m].2.2.2) ∧ (∀ y, y ∈ gOf A → y ≠ g ∧ base ≤ y) ∧
    (∀ (w' : World) (k k2 : Int) (t : List UInt8) (xs : List Int), Own w' g 73 ((((cs.set (m * 4) (.int .i64 k)).set (m * 4 + 1) (str t)).set (m * 4 + 2) (.int .i64 k2)) ++ ds) → OwnS w' 1 A xs.length c 3 (ints xs) → xs.length = ns[m].2.2.2.length → Only w.heap.size (g :: gOf A) w w' → ProgM w' base NA nc (ns.set m (k, t, k2, xs)) AA ac as_) := by
  obtain ⟨h1, ⟨cs, hg, hn, hp⟩, h3, h4, h5⟩ := h
  have hlen := hg.len
  obtain ⟨g, ds, hNA, hbg, ho, hcap, hmax, hdl⟩ := hg.open_ (by omega)
  subst hNA
  obtain ⟨A, c, hcs, hr, ha⟩ := hn m hm
  have hAg : ∀ y, y ∈ gOf A → y ≠ g ∧ base ≤ y := fun y hy => by
    have := ha y hy
    simp only [List.mem_append, List.mem_range, gOf, List.mem_cons, List.not_mem_nil, or_false, not_or] at this
    exact ⟨this.1.1, by omega⟩
  have hA3 : cs[m * 4 + 3]? = some (.slice A ns[m].2.2.2.length c) := by
    have : ((cs.drop (m * 4)).take 4)[3]? = some (.slice A ns[m].2.2.2.length c) := by rw [hcs]; rfl
    rwa [List.getElem?_take_of_lt (by omega), List.getElem?_drop] at this
  refine ⟨g, cs, ds, A, c, rfl, hbg, ho, hlen, hcap, hmax, hcs, hr, hAg, fun w' k k2 t xs ho' hr' hxl hO => ?_⟩
  have hgl : g < w.heap.size := ho.lt
  have hX : ∀ y, y ∈ gOf AA → y ∉ g :: gOf A := fun y hy q => by
    rcases List.mem_cons.1 q with r | r
    · exact h3 g (by simp [gOf]) (r ▸ hy)
    · exact ha y r (by simp [hy])
  refine ⟨h1.only hO (fun y hy => ⟨h1.lt y hy, hX y hy⟩), ⟨((cs.set (m * 4) (.int .i64 k)).set (m * 4 + 1) (str t)).set (m * 4 + 2) (.int .i64 k2), ?_, fun i hi => ?_, ?_⟩, h3, by simpa using h4, h5⟩
  · rw [List.length_set]
    exact Grow.own_ ho' (by simpa using hlen) (by simpa using hdl) hbg hcap hmax
  · rw [List.length_set] at hi
    by_cases him : i = m
    · subst him
      rw [part_same hlen hm hA3, List.getElem_set_self]
      refine ⟨A, c, ?_, hr', ha⟩
      simp only [hxl]
    · rw [part_other him, List.getElem_set_ne (by omega)]
      obtain ⟨A2, c2, hcs2, hr2, ha2⟩ := hn i hi
      refine ⟨A2, c2, hcs2, hr2.keep (fun y hy hl => hO.block y hl (fun q => ?_)), ha2⟩
      have hB3 : cs[i * 4 + 3]? = some (.slice A2 ns[i].2.2.2.length c2) := by
        have : ((cs.drop (i * 4)).take 4)[3]? = some (.slice A2 ns[i].2.2.2.length c2) := by rw [hcs2]; rfl
        rwa [List.getElem?_take_of_lt (by omega), List.getElem?_drop] at this
      rcases List.mem_cons.1 q with r | r
      · exact ha2 y hy (by simp [gOf, r])
      · rcases Nat.lt_or_ge i m with q2 | q2
        · exact hp i m A2 A _ _ _ _ q2 hm hB3 hA3 y hy r
        · exact hp m i A A2 _ _ _ _ (by omega) hi hA3 hB3 y r hy
  · rw [List.length_set]
    intro i j A1 B1 l1 m1 c1 d1 hij hj e1 e2
    rw [List.getElem?_set_ne (by omega), List.getElem?_set_ne (by omega), List.getElem?_set_ne (by omega)] at e1 e2
    exact hp i j A1 B1 l1 m1 c1 d1 hij hj e1 e2
end
theorem rAss_set {l : List EAssign} : ∀ {m : Nat} {x : EAssign}, m < l.length → rAss (l.set m x) = ((rAss l).set (m * 2) (str x.1)).set (m * 2 + 1) (.int .i64 x.2) := by
  induction l with
  | nil => intro m x hm; simp at hm
  | cons a l ih =>
    intro m x hm
    have e : ∀ (b : EAssign) (r : List EAssign), rAss (b :: r) = str b.1 :: .int .i64 b.2 :: rAss r := fun _ _ => rfl
    cases m with
    | zero => rw [List.set_cons_zero, e, e]; rfl
    | succ m =>
      rw [List.set_cons_succ, e, e, ih (by simpa using hm), show (m + 1) * 2 = m * 2 + 1 + 1 by omega]
      simp only [List.set_cons_succ]
section
variable {w w' : World} {base : Nat} {NA : Option Addr} {nc : Nat} {ns : List ENode} {AA : Option Addr} {ac : Nat} {as_ : List EAssign}
theorem ProgM.openA (h : ProgM w base NA nc ns AA ac as_) {m : Nat} (hm : m < as_.length) : ∃ (g : Nat) (ds : List Value), AA = some ⟨g, 0, none⟩ ∧ base ≤ g ∧ Own w g 43 (rAss as_ ++ ds) ∧ as_.length ≤ ac ∧ ac ≤ maxLen ∧
    (∀ (w' : World) (x : EAssign), Own w' g 43 (((rAss as_).set (m * 2) (str x.1)).set (m * 2 + 1) (.int .i64 x.2) ++ ds) → Only w.heap.size [g] w w' → ProgM w' base NA nc ns AA ac (as_.set m x)) := by
  obtain ⟨h1, ⟨cs, hg, hn, hp⟩, h3, h4, h5⟩ := h
  obtain ⟨g, ds, rfl, hbg, ho, hcap, hmax, hdl⟩ := h1.open_ (by omega)
  refine ⟨g, ds, rfl, hbg, ho, hcap, hmax, fun w' x ho' hO => ?_⟩
  have hgN : g ∉ gOf NA := fun q => h3 g q (by simp [gOf])
  refine ⟨?_, ⟨cs, hg.only hO (fun y hy => ⟨hg.lt y hy, fun q => hgN (by simp at q; exact q ▸ hy)⟩), hn.keep (fun y hy hl => hO.block y hl (fun q => hy (by simp at q; simp [gOf, q]))), hp⟩, h3, h4, by simpa using h5⟩
  rw [List.length_set, rAss_set hm]
  have hl := rAss_len as_
  exact Grow.own_ ho' (by simpa using hl) (by simpa using hdl) hbg hcap hmax
end
end Go.Proofs.YtnlbojckobgjpaaDoor
