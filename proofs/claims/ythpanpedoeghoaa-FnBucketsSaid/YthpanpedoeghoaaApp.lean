/- append onto a slice of the call's own, of a source that can be read: a law in the words RS and Grow. No program in sight. -/
import Derived.Test.YthpanpedoeghoaaMark
import Derived.Maps.AppendAt
import Derived.Laws.AppendOwnNone
import Derived.RegionTactic
set_option linter.unusedVariables false
set_option linter.unusedSimpArgs false
set_option linter.unnecessarySimpa false
namespace Go.Proofs.Ythpanpedoeghoaa
open Go.RowKit
set_option linter.unusedVariables false
/-- The slice .slice A n c is the call's own (nil, or the first part of a block from base on), with the cells xs. -/
def Grow (w : World) (base : Nat) (e : TypeId) (size : Nat) (A : Option Addr) (n c : Nat) (xs : List Value) : Prop := w.ownsRow base e size (.slice A n c) n xs
section
variable {w w' : World} {base : Nat} {e : TypeId} {size n c : Nat} {A : Option Addr} {xs : List Value}
theorem Grow.len (h : Grow w base e size A n c xs) : xs.length = n * size := h.1
theorem Grow.shape (h : Grow w base e size A n c xs) : (A = none ∧ n = 0 ∧ c = 0) ∨ ∃ g cur, A = some ⟨g, 0, none⟩ ∧ base ≤ g ∧ w.heap[g]? = some (.cells cur e (0, 0)) ∧ n ≤ c ∧ c ≤ maxLen ∧ cur.size = c * size ∧ cur.toList.take (n * size) = xs := by
  rcases h.2 with ⟨h1, h2⟩ | ⟨g, cap, cur, h1, h2⟩
  · injection h1 with a b c
    exact .inl ⟨a, h2, c⟩
  · injection h1 with a b c
    subst c
    exact .inr ⟨g, cur, a, h2⟩
theorem Grow.ge (h : Grow w base e size A n c xs) : ∀ x, x ∈ gOf A → base ≤ x := by
  intro x hx
  rcases h.shape with ⟨rfl, _, _⟩ | ⟨g, cur, rfl, hb, _⟩
  · cases hx
  · simp [gOf] at hx; omega
theorem Grow.lt (h : Grow w base e size A n c xs) : ∀ x, x ∈ gOf A → x < w.heap.size := by
  intro x hx
  rcases h.shape with ⟨rfl, _, _⟩ | ⟨g, cur, rfl, hb, hg, _⟩
  · cases hx
  · simp [gOf] at hx; subst hx; exact (Array.getElem?_eq_some_iff.1 hg).1
theorem Grow.ownS (h : Grow w base e size A n c xs) : OwnS w size A n c e xs := by
  rcases h.shape with ⟨rfl, rfl, rfl⟩ | ⟨g, cur, rfl, hb, hg, h1, h2, h3, h4⟩
  · exact ⟨h.1, Nat.le_refl _, Nat.zero_le _, .inl ⟨rfl, rfl⟩⟩
  · refine ⟨h.1, h1, h2, .inr ⟨g, cur.toList.drop (n * size), rfl, ?_⟩⟩
    unfold Own
    rw [← h4, List.take_append_drop]
    exact hg
theorem Grow.rs (h : Grow w base e size A n c xs) : RS w size A n c xs := h.ownS.rs
theorem Grow.keep (h : Grow w base e size A n c xs) (hb : ∀ x, x ∈ gOf A → w'.heap[x]? = w.heap[x]?) : Grow w' base e size A n c xs := by
  refine ⟨h.1, ?_⟩
  rcases h.shape with ⟨rfl, rfl, rfl⟩ | ⟨g, cur, rfl, hb', hg, rest⟩
  · exact .inl ⟨rfl, rfl⟩
  · exact .inr ⟨g, c, cur, rfl, hb', (hb g (by simp [gOf])).trans hg, rest⟩
theorem Grow.step (hb : Below w.heap.size w w') (h : Grow w base e size A n c xs) : Grow w' base e size A n c xs := h.keep (fun x hx => hb.block x (h.lt x hx))
theorem Grow.alloc (h : Grow w base e size A n c xs) (o : Obj) : Grow (w.alloc o) base e size A n c xs := h.step ((Below.refl _ _).alloc (Nat.le_refl _) o)
theorem Grow.drew (h : Grow w base e size A n c xs) : Grow w.drew base e size A n c xs := h
theorem Grow.drewN (h : Grow w base e size A n c xs) (k : Nat) : Grow (w.drewN k) base e size A n c xs := h
theorem Grow.far (h : Grow w base e size A n c xs) {p : Addr} (hp : p.block < base) (u : Value) : Grow (w.setCell p u) base e size A n c xs :=
  h.keep (fun x hx => Below.heap_setCell w p u x (by have := h.ge x hx; omega))
theorem Grow.only {B : Nat} {G : List Nat} (h : Grow w base e size A n c xs) (hO : Only B G w w') (hg : ∀ x, x ∈ gOf A → x < B ∧ x ∉ G) : Grow w' base e size A n c xs := h.keep (fun x hx => hO.block x (hg x hx).1 (hg x hx).2)
theorem Grow.mono (h : Grow w base e size A n c xs) {b : Nat} (hb : b ≤ base) : Grow w b e size A n c xs := by
  refine ⟨h.1, ?_⟩
  rcases h.shape with ⟨rfl, rfl, rfl⟩ | ⟨g, cur, rfl, hb', hg, rest⟩
  · exact .inl ⟨rfl, rfl⟩
  · exact .inr ⟨g, c, cur, rfl, Nat.le_trans hb hb', hg, rest⟩
theorem Grow.nil (w : World) (base : Nat) (e : TypeId) (size : Nat) : Grow w base e size none 0 0 [] := ⟨by simp, .inl ⟨rfl, rfl⟩⟩
/-- A slice over a whole new block. -/
theorem Grow.of_own {g : Nat} (h : Own w g e xs) (hl : xs.length = n * size) (hb : base ≤ g) (hn : n ≤ maxLen) : Grow w base e size (some ⟨g, 0, none⟩) n n xs := by
  refine ⟨hl, .inr ⟨g, n, ⟨xs⟩, rfl, hb, h, Nat.le_refl _, hn, hl, ?_⟩⟩
  rw [← hl]; exact List.take_of_length_le (Nat.le_refl _)
theorem Grow.lit (w : World) (cs : Array Value) (n : Nat) (hs : cs.toList.length = n * size) (hb : base ≤ w.heap.size) (hn : n ≤ maxLen) : Grow (w.alloc (.cells cs e)) base e size (some ⟨w.heap.size, 0, none⟩) n n cs.toList :=
  Grow.of_own (Own.new w e cs) hs hb hn
theorem Grow.lit_at {w : World} {cs : Array Value} {g n : Nat} (hg : g = w.heap.size) (hs : cs.toList.length = n * size) (hb : base ≤ w.heap.size) (hn : n ≤ maxLen) : Grow (w.alloc (.cells cs e)) base e size (some ⟨g, 0, none⟩) n n cs.toList := by
  subst hg; exact Grow.lit w cs n hs hb hn
end
/-- What append leaves. -/
def Appended (w : World) (base : Nat) (e : TypeId) (size : Nat) (A : Option Addr) (n : Nat) (xs : List Value) (A' : Option Addr) (n' c' : Nat) (w' : World) : Prop :=
  Grow w' base e size A' n' c' xs ∧ Below base w w' ∧ w.grownBy w' (A.map (·.block)) ∧ w.heap.size ≤ w'.heap.size ∧ (gOf A' = gOf A ∨ gOf A' = [w.heap.size])
theorem Appended.far {w w' : World} {base : Nat} {e : TypeId} {size n n' c' : Nat} {A A' : Option Addr} {xs : List Value} (h : Appended w base e size A n xs A' n' c' w') {b : Nat} (hb : b < w.heap.size) (hA : b ∉ gOf A) :
    (∀ o, w'.cell? ⟨b, o, none⟩ = w.cell? ⟨b, o, none⟩) ∧ (∀ o, w'.frozen? ⟨b, o, none⟩ = w.frozen? ⟨b, o, none⟩) := by
  have hx := h.2.2.1.block b hb (by cases A <;> simp_all [gOf])
  exact ⟨fun o => World.cell?_of_block hx, fun o => World.frozen?_of_block hx⟩
theorem Grow.app {w w' : World} {b base : Nat} {e e' : TypeId} {size size' n n' c c2 m : Nat} {A A2 A' : Option Addr} {xs ys : List Value} (ap : Appended w base e' size' A2 m ys A' n' c2 w') (h : Grow w b e size A n c xs) (hd : ∀ x, x ∈ gOf A → x ∉ gOf A2) : Grow w' b e size A n c xs :=
  h.keep (fun x hx => ap.2.2.1.block x (h.lt x hx) (by have := hd x hx; cases A2 <;> simp_all [gOf]))
theorem Appended.keepRS {w w' : World} {base : Nat} {e : TypeId} {size n n' c' : Nat} {A A' : Option Addr} {xs : List Value} (h : Appended w base e size A n xs A' n' c' w') {a : World} {sz m d : Nat} {C : Option Addr} {ys : List Value} (hr : RS a sz C m d ys) (hb : Below a.heap.size a w) (hl : a.heap.size ≤ base) : RS w' sz C m d ys :=
  RS.step (hb.trans (h.2.1.mono hl)) hr
/-- Two literal slices, each appended to: the first row lives on, and the two rows lie apart. -/
theorem two_rows {X1 Y1 X2 Y2 : World} {base : Nat} {e1 e2 : TypeId} {s1 s2 m1 m2 n1 n2 c1 c2 b1 b2 : Nat} {A1 A2 : Option Addr} {xs ys : List Value} (g1 : Appended X1 base e1 s1 (some ⟨b1, 0, none⟩) m1 xs A1 n1 c1 Y1) (g2 : Appended X2 base e2 s2 (some ⟨b2, 0, none⟩) m2 ys A2 n2 c2 Y2)
    (hY : Below Y1.heap.size Y1 X2) (h1 : b1 < X1.heap.size) (hne : b1 ≠ b2) (h2 : b2 < X1.heap.size ∨ Y1.heap.size ≤ b2) : Grow Y2 base e1 s1 A1 n1 c1 xs ∧ (∀ x, x ∈ gOf A1 → x ∉ gOf A2) := by
  have hlt := g1.1.lt
  have hz := g1.2.2.2.1
  have hz2 := hY.size
  have hd : ∀ x, x ∈ gOf A1 → (x = b1 ∨ x = X1.heap.size) ∧ x < Y1.heap.size := by
    intro x hx
    refine ⟨?_, hlt x hx⟩
    rcases g1.2.2.2.2 with h | h
    · rw [h] at hx; left; simpa [gOf] using hx
    · rw [h] at hx; right; simpa using hx
  refine ⟨Grow.app g2 (Grow.step hY g1.1) (fun x hx hy => ?_), fun x hx hy => ?_⟩
  · have := hd x hx
    simp [gOf] at hy
    omega
  · have := hd x hx
    rcases g2.2.2.2.2 with h | h
    · rw [h] at hy; simp [gOf] at hy; omega
    · rw [h] at hy; simp at hy; omega
section
variable {P : Program} {w : World}
theorem run_app (t ty : TypeId) (base : Nat) (e : TypeId) (z : Value) (size bytes : Nat) (ht : P.underlying t = some (.slice e)) (hinfo : (P.info? e).map (fun i => (i.zero, i.size, i.bytes)) = some (some z, size, bytes)) (hzs : z.cells.size = size) (hsz : 0 < size)
    {A : Option Addr} {n c : Nat} {xs : List Value} (hown : Grow w base e size A n c xs) {B : Option Addr} {m d : Nat} {ys : List Value} (hr : RS w size B m d ys) (h1 : ∀ u ∈ ys, u.oneCell' = true)
    (h63 : n + m ≤ maxLen) (hbytes : (n + m) * bytes ≤ 140737488355328) (hbase : base ≤ w.heap.size) :
    ∃ A' c' w', (Builtin.append_ #[t, t] ty #[.slice A n c, .slice B m d]).run P w = .ok (.slice A' (n + m) c') w' ∧ Appended w base e size A n (xs ++ ys) A' (n + m) c' w' := by
  obtain ⟨i, hi, hz, hs, hby⟩ := info_parts hinfo
  have hbl : (Value.slice A n c).ownBlock = A.map (·.block) := by cases A <;> rfl
  have hge : ∀ k, A.map (·.block) = some k → base ≤ k := by
    intro k hk
    cases A with
    | none => simp at hk
    | some a => simp at hk; exact hown.ge k (by simp [gOf, hk])
  rcases B with _ | ad
  · have hm0 : m = 0 := by
      rcases Nat.eq_zero_or_pos m with h | h
      · exact h
      · obtain ⟨b, o, hA, _⟩ := hr.open_.2.2 h; cases hA
    subst hm0
    have hy : ys = [] := List.eq_nil_of_length_eq_zero (by have := hr.xlen; simpa using this)
    subst hy
    refine ⟨A, c, w, ?_, ?_, Below.refl _ _, ⟨rfl, rfl, rfl, Nat.le_refl _, fun _ _ _ => rfl⟩, Nat.le_refl _, .inl rfl⟩
    · rcases hown.shape with ⟨rfl, rfl, rfl⟩ | ⟨g, cur, rfl, _, _, hnc, _⟩
      · simp [Builtin.append_, run_underlying ht, sizeOf, typeInfo, hi, Builtin.lenOf, Builtin.firstCells]
      · simp [Builtin.append_, run_underlying ht, sizeOf, typeInfo, hi, Builtin.lenOf, Builtin.firstCells, hnc, storeCells]
    · rw [List.append_nil]; exact hown
  · have hnews : ∀ j u, ys[j]? = some u → w.cell? (ad.add j) = some u := by
      intro j u hu
      have hjl : j < ys.length := by
        rcases Nat.lt_or_ge j ys.length with h | h
        · exact h
        · rw [List.getElem?_eq_none h] at hu; cases hu
      have hx := hr.xlen
      have hm : 0 < m := by
        rcases Nat.eq_zero_or_pos m with h | h
        · rw [h, Nat.zero_mul] at hx; omega
        · exact h
      obtain ⟨b, o, hA, _, hcell⟩ := hr.open_.2.2 hm
      injection hA with hA
      subst hA
      have hadd : (Addr.mk b o none).add j = ⟨b, o + j, none⟩ := by
        unfold Addr.add; split
        · rename_i h; subst h; rfl
        · rfl
      rw [hadd, hcell j (by omega), hu]
    obtain ⟨v', w', hrun, h2, h3, h4, h5⟩ := run_append_own_at (P := P) w base t ty e i z size bytes ht hi hz hs hby hzs hsz (.slice A n c) n xs hown ad m d ys hr.xlen hnews h1 h63 hbytes hbase
    have hshape : ∃ A' c', v' = .slice A' (n + m) c' := by
      rcases h2.2 with ⟨h6, h7⟩ | ⟨g, cap, cur, h6, _⟩
      · exact ⟨none, 0, by rw [h6, h7]⟩
      · exact ⟨_, _, h6⟩
    obtain ⟨A', c', rfl⟩ := hshape
    have hbl' : (Value.slice A' (n + m) c').ownBlock = A'.map (·.block) := by cases A' <;> rfl
    rw [hbl, hbl'] at h5
    rw [hbl] at h3
    refine ⟨A', c', w', hrun, h2, (Below.refl base w).grown h3 hbase hge, h3, h3.size, ?_⟩
    rcases h5 with h5 | h5
    · left; cases A' <;> cases A <;> simp_all [gOf]
    · right; cases A' <;> simp_all [gOf]
/-- At the operation, in a plain region. -/
theorem wpList_app {ops : Array Oper} {rest : List Oper} {o : Oper} {a : Act} {Q : Exit → Act → World → Prop} (hgd : o.guard = none) (s x : Operand) (t : TypeId)
    (ho : o.op = .call { callee := .builtin .append, args := #[s, x], argTypes := #[t, t] })
    (base : Nat) (e : TypeId) (z : Value) (size bytes : Nat) (ht : P.underlying t = some (.slice e)) (hinfo : (P.info? e).map (fun i => (i.zero, i.size, i.bytes)) = some (some z, size, bytes)) (hzs : z.cells.size = size) (hsz : 0 < size)
    {A : Option Addr} {n c : Nat} {xs : List Value} (hs : a.eval s = .slice A n c) (hown : Grow w base e size A n c xs) {B : Option Addr} {m d : Nat} {ys : List Value} (hx : a.eval x = .slice B m d) (hr : RS w size B m d ys) (h1 : ∀ u ∈ ys, u.oneCell' = true)
    (h63 : n + m ≤ maxLen) (hbytes : (n + m) * bytes ≤ 140737488355328) (hbase : base ≤ w.heap.size)
    (h : ∀ A' c' w', Appended w base e size A n (xs ++ ys) A' (n + m) c' w' → wpList P ops Q rest (a.put o.dst (.slice A' (n + m) c')) w') : wpList P ops Q (o :: rest) a w := by
  refine wpList_plain hgd fun K hK => ?_
  obtain ⟨A', c', w', hrun, hap⟩ := run_app (P := P) t o.type base e z size bytes ht hinfo hzs hsz hown hr h1 h63 hbytes hbase
  unfold Oper.wp execOp
  simp only [ho, resolve, invoke, builtin, Sem.run_bind, Sem.run_pure, Result.andThen_ok, List.map_toArray, List.map_cons, List.map_nil, hs, hx, hrun]
  exact hK _ _ (h A' c' w' hap)
/-- At a step of a region that draws its order. -/
theorem step_app {ops : Array Oper} {o : Oper} {a : Act} {K : Act → World → Prop} {Q : Exit → Act → World → Prop} {E : Prop} (hgd : o.guard = none) (s x : Operand) (t : TypeId)
    (ho : o.op = .call { callee := .builtin .append, args := #[s, x], argTypes := #[t, t] })
    (base : Nat) (e : TypeId) (z : Value) (size bytes : Nat) (ht : P.underlying t = some (.slice e)) (hinfo : (P.info? e).map (fun i => (i.zero, i.size, i.bytes)) = some (some z, size, bytes)) (hzs : z.cells.size = size) (hsz : 0 < size)
    {A : Option Addr} {n c : Nat} {xs : List Value} (hs : a.eval s = .slice A n c) (hown : Grow w base e size A n c xs) {B : Option Addr} {m d : Nat} {ys : List Value} (hx : a.eval x = .slice B m d) (hr : RS w size B m d ys) (h1 : ∀ u ∈ ys, u.oneCell' = true)
    (h63 : n + m ≤ maxLen) (hbytes : (n + m) * bytes ≤ 140737488355328) (hbase : base ≤ w.heap.size)
    (h : ∀ A' c' w', Appended w base e size A n (xs ++ ys) A' (n + m) c' w' → K (a.put o.dst (.slice A' (n + m) c')) w') :
    if Region.wanted o (yielded ops a.tmps) = true then Oper.wp P o a w K Q else E := by
  have hw : Region.wanted o (yielded ops a.tmps) = true := by simp [Region.wanted, hgd]
  rw [if_pos hw]
  obtain ⟨A', c', w', hrun, hap⟩ := run_app (P := P) t o.type base e z size bytes ht hinfo hzs hsz hown hr h1 h63 hbytes hbase
  unfold Oper.wp execOp
  simp only [ho, resolve, invoke, builtin, Sem.run_bind, Sem.run_pure, Result.andThen_ok, List.map_toArray, List.map_cons, List.map_nil, hs, hx, hrun]
  exact h A' c' w' hap
end
theorem ints_one (l : List Int) : ∀ u ∈ ints l, u.oneCell' = true := by
  intro u hu
  obtain ⟨x, _, rfl⟩ := List.mem_map.1 hu
  rfl
theorem bools_one (l : List Bool) : ∀ u ∈ bools l, u.oneCell' = true := by
  intro u hu
  obtain ⟨x, _, rfl⟩ := List.mem_map.1 hu
  rfl
/-- A part of a slice. -/
theorem RS.part {w : World} {size n c : Nat} {A : Option Addr} {xs : List Value} (h : RS w size A n c xs) {b o : Nat} (hA : A = some ⟨b, o, none⟩) (i j d : Nat) (hij : i ≤ j) (hj : j ≤ n) (hd : j - i ≤ d) (hd2 : d ≤ maxLen) :
    RS w size (some ⟨b, o + i * size, none⟩) (j - i) d ((xs.drop (i * size)).take ((j - i) * size)) := by
  obtain ⟨h1, h2, h3⟩ := h.open_
  have hl := h.xlen
  have hm : i * size + (j - i) * size ≤ n * size := by rw [← Nat.add_mul]; exact Nat.mul_le_mul_right _ (by omega)
  refine ⟨by rw [List.length_take, List.length_drop]; omega, _, _, rfl, hd, hd2, fun hp => ?_⟩
  obtain ⟨b', o', hA', h4, h5⟩ := h3 (by omega)
  rw [hA] at hA'
  injection hA' with hA'
  injection hA' with e1 e2
  subst e1; subst e2
  refine ⟨b, o + i * size, rfl, Nat.zero_le _, h4, fun k hk => ?_⟩
  rw [List.getElem?_take_of_lt hk, List.getElem?_drop, Nat.add_assoc, h5 _ (by omega)]
end Go.Proofs.Ythpanpedoeghoaa
