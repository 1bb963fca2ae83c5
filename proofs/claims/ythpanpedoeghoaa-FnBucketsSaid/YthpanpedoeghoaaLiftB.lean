/- THE TRACE OF A SENDER (number j) AND A RECEIVER (goroutine 0) BESIDE LEAVERS: no data race; what each may touch; and, once the receiver has found the channel closed, all is known to goroutine 0. -/
import Derived.Test.YthpanpedoeghoaaLiftA
import Derived.Conc.CrowdComm
import Derived.Conc.PipeGen
import Derived.Conc.DeferLaws
set_option linter.unnecessarySimpa false
set_option linter.unusedVariables false
set_option linter.unusedSimpArgs false
namespace Go.Proofs.Ythpanpedoeghoaa.Lift
open Go.Conc

structure PipeBase (Mine : Loc → Prop) (j : Nat) (t : Trace) : Prop where
  clean : ∀ said, ¬ Race said t
  old : ∀ i a, touchAt t i = some a → a.loc.isMemory = true → (Knows t 0 i ∧ Knows t j i) ∨ (t.g? i = some 0 ∧ (a.write = true → Mine a.loc)) ∨ (t.g? i = some j ∧ a.write = false ∧ ¬ Mine a.loc)
  over : ∀ i g, t.g? i = some g → g ≠ 0 → g ≠ j → t.counts i → ∃ k, t.g? k = some 0 ∧ HappensBefore t i k
  hears0 : Deaf t 0 = 0
structure PipeTr (Mine : Loc → Prop) (j : Nat) (t : Trace) : Prop extends PipeBase Mine j t where
  hearsj : Deaf t j = 0

/-- Neither says 'disable' nor 'enable'. -/
def Quiet0 (u : Trace) : Prop := ∀ op ∈ u, op.act ≠ .mark .disable ∧ op.act ≠ .mark .enable

theorem Deaf_quiet (t : Trace) (g : Nat) {u : Trace} (h : Quiet0 u) : Deaf (t ++ u) g = Deaf t g := by
  obtain ⟨l⟩ := u
  rw [Deaf_append]
  induction l generalizing t with
  | nil => rfl
  | cons y l ih =>
    have hy := h y (by simp)
    have e1 : deafStep g (Deaf t g) y = Deaf t g := by
      unfold deafStep
      split
      · rename_i e; exact absurd e hy.1
      · rename_i e; exact absurd e hy.2
      · rfl
    rw [List.foldl_cons, e1]
    exact ih t (fun op hop => h op (by simp at hop ⊢; exact .inr hop))

theorem noRace_mute {said : Bool} {t u : Trace} (h : ¬ Race said t) (hn : ∀ op ∈ u, op.act.touch? = none) : ¬ Race said (t ++ u) := by
  rintro ⟨i, j, hij, ⟨a, b, ha, hb, hc⟩, n1, n2⟩
  obtain ⟨x, hx, hxa⟩ := touch_of ha
  obtain ⟨y, hy, hyb⟩ := touch_of hb
  rcases getElem?_append_cases hy with ⟨hj, hy'⟩ | ⟨hj, hyu⟩
  · have hi : i < t.size := Nat.lt_trans hij hj
    have hx' : t[i]? = some x := by rw [← getElem?_append_old (u := u) hi]; exact hx
    exact h ⟨i, j, hij, ⟨a, b, by simp [Trace.act?, hx', hxa], by simp [Trace.act?, hy', hyb], hc⟩, fun e => n1 (hb_app u e), fun e => n2 (hb_app u e)⟩
  · rw [hn y hyu] at hyb; cases hyb

section
variable {Mine : Loc → Prop} {j : Nat} {t u : Trace}

theorem g?_of {t : Trace} {i : Nat} {x : MemOp} (h : t[i]? = some x) : t.g? i = some x.g := by simp [Trace.g?, h]
theorem knows_of_g {t : Trace} {i g : Nat} (h : t.g? i = some g) : Knows t g i := by
  obtain ⟨x, hx, rfl⟩ := Option.map_eq_some_iff.1 h
  exact knows_own hx

theorem over_app (h : ∀ i g, t.g? i = some g → g ≠ 0 → g ≠ j → t.counts i → ∃ k, t.g? k = some 0 ∧ HappensBefore t i k) (hu : ∀ op ∈ u, op.g = 0 ∨ op.g = j ∨ op.act.touch? = none) :
    ∀ i g, (t ++ u).g? i = some g → g ≠ 0 → g ≠ j → (t ++ u).counts i → ∃ k, (t ++ u).g? k = some 0 ∧ HappensBefore (t ++ u) i k := by
  intro i g hg h0 hj hc
  obtain ⟨x, hx, hcx⟩ := hc
  obtain ⟨op, hop, hox⟩ := touch_of hx
  rcases getElem?_append_cases hop with ⟨hi, hop'⟩ | ⟨_, hopu⟩
  · obtain ⟨k, hk, hb⟩ := h i g (by simpa [Trace.g?, getElem?_append_old hi] using hg) h0 hj ((counts_old hi).1 ⟨x, hx, hcx⟩)
    have hkl : k < t.size := by
      unfold Trace.g? at hk
      obtain ⟨z, hz, _⟩ := Option.map_eq_some_iff.1 hk
      exact lt_size_of_getElem? hz
    exact ⟨k, by simpa [Trace.g?, getElem?_append_old hkl] using hk, hb_app u hb⟩
  · have hgo : op.g = g := by simpa [Trace.g?, hop] using hg
    rcases hu op hopu with e | e | e
    · exact absurd (hgo.symm.trans e) h0
    · exact absurd (hgo.symm.trans e) hj
    · rw [e] at hox; cases hox

/-- Old touches stay as they are. -/
theorem PipeBase.oldApp (h : PipeBase Mine j t) {i : Nat} {a : Touch} {x : MemOp} (hx : t[i]? = some x) (hxa : x.act.touch? = some a) (hm : a.loc.isMemory = true) :
    (Knows (t ++ u) 0 i ∧ Knows (t ++ u) j i) ∨ ((t ++ u).g? i = some 0 ∧ (a.write = true → Mine a.loc)) ∨ ((t ++ u).g? i = some j ∧ a.write = false ∧ ¬ Mine a.loc) := by
  have hi := lt_size_of_getElem? hx
  rcases h.old i a (by rw [touchAt_of hx]; exact hxa) hm with ⟨a1, a2⟩ | ⟨a1, a2⟩ | ⟨a1, a2⟩
  · exact .inl ⟨a1.app u, a2.app u⟩
  · exact .inr (.inl ⟨by rw [g?_old hi]; exact a1, a2⟩)
  · exact .inr (.inr ⟨by rw [g?_old hi]; exact a1, a2⟩)

/-- The receiver's own operations. -/
theorem PipeBase.app0 (h : PipeBase Mine j t) (hu : ∀ op ∈ u, op.g = 0) (hw : ∀ op ∈ u, ∀ b, op.act.touch? = some b → b.write = true → Mine b.loc) (hq : Quiet0 u) : PipeBase Mine j (t ++ u) := by
  refine ⟨fun said => noRace_append (h.clean said) hu fun i a ha op hop b hb hc => ?_, fun i a ha hm => ?_, over_app h.over fun op hop => .inl (hu op hop), (Deaf_quiet t 0 hq).trans h.hears0⟩
  · rcases h.old i a ha hc.2.1 with ⟨hk, _⟩ | ⟨hg, _⟩ | ⟨hg, hwr, hmi⟩
    · exact hk
    · exact knows_of_g hg
    · obtain ⟨hl, _, hrw, _⟩ := hc
      rcases hrw with hrw | hrw
      · rw [hwr] at hrw; cases hrw
      · exact absurd (hl ▸ hw op hop b hb hrw) hmi
  · obtain ⟨x, hx, hxa⟩ := touch_of ha
    rcases getElem?_append_cases hx with ⟨_, hx'⟩ | ⟨_, hxu⟩
    · exact h.oldApp hx' hxa hm
    · exact .inr (.inl ⟨by rw [g?_of hx, hu x hxu], hw x hxu a hxa⟩)

theorem PipeTr.app0 (h : PipeTr Mine j t) (hu : ∀ op ∈ u, op.g = 0) (hw : ∀ op ∈ u, ∀ b, op.act.touch? = some b → b.write = true → Mine b.loc) (hq : Quiet0 u) : PipeTr Mine j (t ++ u) :=
  ⟨h.toPipeBase.app0 hu hw hq, (Deaf_quiet t j hq).trans h.hearsj⟩

/-- The sender's own operations. -/
theorem PipeTr.appJ (h : PipeTr Mine j t) (hu : ∀ op ∈ u, op.g = j) (hw : ∀ op ∈ u, ∀ b, op.act.touch? = some b → b.write = false ∧ ¬ Mine b.loc) (hq : Quiet0 u) : PipeTr Mine j (t ++ u) := by
  refine ⟨⟨fun said => noRace_append (h.clean said) hu fun i a ha op hop b hb hc => ?_, fun i a ha hm => ?_, over_app h.over fun op hop => .inr (.inl (hu op hop)), (Deaf_quiet t 0 hq).trans h.hears0⟩, (Deaf_quiet t j hq).trans h.hearsj⟩
  · rcases h.old i a ha hc.2.1 with ⟨_, hk⟩ | ⟨hg, hwr⟩ | ⟨hg, _⟩
    · exact hk
    · obtain ⟨hl, _, hrw, _⟩ := hc
      obtain ⟨b1, b2⟩ := hw op hop b hb
      rcases hrw with hrw | hrw
      · exact absurd (hl ▸ hwr hrw) b2
      · rw [b1] at hrw; cases hrw
    · exact knows_of_g hg
  · obtain ⟨x, hx, hxa⟩ := touch_of ha
    rcases getElem?_append_cases hx with ⟨_, hx'⟩ | ⟨_, hxu⟩
    · exact h.oldApp hx' hxa hm
    · exact .inr (.inr ⟨by rw [g?_of hx, hu x hxu], hw x hxu a hxa⟩)

/-- Operations that touch nothing. -/
theorem PipeBase.appNone (h : PipeBase Mine j t) (hn : ∀ op ∈ u, op.act.touch? = none) (hd : Deaf (t ++ u) 0 = Deaf t 0) : PipeBase Mine j (t ++ u) := by
  refine ⟨fun said => noRace_mute (h.clean said) hn, fun i a ha hm => ?_, over_app h.over fun op hop => .inr (.inr (hn op hop)), hd.trans h.hears0⟩
  obtain ⟨x, hx, hxa⟩ := touch_of ha
  rcases getElem?_append_cases hx with ⟨_, hx'⟩ | ⟨_, hxu⟩
  · exact h.oldApp hx' hxa hm
  · rw [hn x hxu] at hxa; cases hxa
theorem PipeTr.appNone (h : PipeTr Mine j t) (hn : ∀ op ∈ u, op.act.touch? = none) (hd : Deaf (t ++ u) 0 = Deaf t 0 ∧ Deaf (t ++ u) j = Deaf t j) : PipeTr Mine j (t ++ u) :=
  ⟨h.toPipeBase.appNone hn hd.1, hd.2.trans h.hearsj⟩
end

theorem quiet_of_neutral {fn : FuncId} {g : Nat} {pos : String} {es : Array Event} (h : ∀ e ∈ es, ∀ m, e.loc = .mark m → Neutral m) : Quiet0 (MemOp.ofEvents g fn pos es) := by
  intro op hop
  obtain ⟨e, he, rfl⟩ := Go.Conc.mem_ofEvents hop
  have := ofEvent_noMark (h e he)
  constructor <;> (intro e'; have hn := this _ e'; cases hn)

/-- The fork: goroutine 0, who knows all and hears, starts goroutine j, who hears. -/
theorem pipe_fork {Mine : Loc → Prop} {t : Trace} {j : Nat} {x y : MemOp} (h : Past0 t) (h0 : Deaf t 0 = 0) (hj : Deaf t j = 0) (hne : j ≠ 0) (hx : x.g = 0 ∧ x.act = .go j) (hy : y.g = j ∧ y.act = .start) : PipeTr Mine j (t ++ #[x, y]) := by
  have ex : (t ++ #[x, y])[t.size]? = some x := by rw [Array.getElem?_append_right (Nat.le_refl _)]; simp
  have ey : (t ++ #[x, y])[t.size + 1]? = some y := by rw [Array.getElem?_append_right (Nat.le_succ _)]; simp
  have hq : Quiet0 #[x, y] := by
    intro op hop
    simp at hop
    rcases hop with rfl | rfl
    · rw [hx.2]; simp
    · rw [hy.2]; simp
  have hn : ∀ op ∈ (#[x, y] : Array MemOp), op.act.touch? = none := by
    intro op hop
    simp at hop
    rcases hop with rfl | rfl
    · rw [hx.2]; rfl
    · rw [hy.2]; rfl
  -- the start notices the go statement
  have d0 : (t ++ #[x, y]).deaf 0 t.size = 0 := by rw [deaf_old (Nat.le_refl _)]; exact h0
  have dj : (t ++ #[x, y]).deaf j (t.size + 1) = 0 := by
    rw [deaf_succ ex, deaf_old (Nat.le_refl _)]
    have : t.deaf j t.size = 0 := hj
    rw [this]
    unfold deafStep
    rw [hx.2]
  have edge : HappensBefore (t ++ #[x, y]) t.size (t.size + 1) :=
    .single (.inr ⟨.spawn (by rw [act?_of ex, hx.2]) (by rw [act?_of ey, hy.2]) (by rw [g?_of ey, hy.1]), ⟨0, by rw [g?_of ex, hx.1], d0⟩, ⟨j, by rw [g?_of ey, hy.1], dj⟩⟩)
  refine ⟨⟨fun said => noRace_mute (h.clean said) hn, fun i a ha hm => ?_, fun i g hg hg0 hgj hc => ?_, (Deaf_quiet t 0 hq).trans h0⟩, (Deaf_quiet t j hq).trans hj⟩
  · obtain ⟨z, hz, hza⟩ := touch_of ha
    rcases getElem?_append_cases hz with ⟨hi, hz'⟩ | ⟨_, hzu⟩
    · have hk := h.known i a (by rw [touchAt_of hz']; exact hza) hm
      refine .inl ⟨hk.app _, ⟨t.size + 1, y, ey, hy.1, .inr ?_⟩⟩
      exact .trans (hk.hb_new (Nat.le_refl _) ex hx.1) edge
    · rw [hn z hzu] at hza; cases hza
  · exact over_app (j := j) (fun i g hg h0 _ hc => h.over i g hg h0 hc) (fun op hop => .inr (.inr (hn op hop))) i g hg hg0 hgj hc

/-- What is held of the trace once the sender has closed the channel. -/
structure ShutTr (Mine : Loc → Prop) (j c pc : Nat) (t : Trace) : Prop where
  tr : PipeBase Mine j t
  close : ∃ y, t[pc]? = some y ∧ y.g = j ∧ y.act = .close c
  heard : t.deaf j pc = 0
  last : ∀ i a, touchAt t i = some a → t.g? i = some j → i < pc

theorem ShutTr.app0 {Mine : Loc → Prop} {j c pc : Nat} {t u : Trace} (h : ShutTr Mine j c pc t) (hne : j ≠ 0) (hu : ∀ op ∈ u, op.g = 0) (hw : ∀ op ∈ u, ∀ b, op.act.touch? = some b → b.write = true → Mine b.loc) (hq : Quiet0 u) : ShutTr Mine j c pc (t ++ u) := by
  obtain ⟨y, hy, hyg, hya⟩ := h.close
  have hpc := lt_size_of_getElem? hy
  refine ⟨h.tr.app0 hu hw hq, ⟨y, by rw [getElem?_append_old hpc]; exact hy, hyg, hya⟩, by rw [deaf_old (Nat.le_of_lt hpc)]; exact h.heard, fun i a ha hg => ?_⟩
  obtain ⟨x, hx, hxa⟩ := touch_of ha
  rcases getElem?_append_cases hx with ⟨hi, hx'⟩ | ⟨_, hxu⟩
  · exact h.last i a (by rw [touchAt_of hx']; exact hxa) (by rw [← g?_old (u := u) hi]; exact hg)
  · rw [g?_of hx, hu x hxu] at hg
    exact absurd (Option.some.inj hg).symm hne
theorem ShutTr.appNone {Mine : Loc → Prop} {j c pc : Nat} {t u : Trace} (h : ShutTr Mine j c pc t) (hn : ∀ op ∈ u, op.act.touch? = none) (hd : Deaf (t ++ u) 0 = Deaf t 0) : ShutTr Mine j c pc (t ++ u) := by
  obtain ⟨y, hy, hyg, hya⟩ := h.close
  have hpc := lt_size_of_getElem? hy
  refine ⟨h.tr.appNone hn hd, ⟨y, by rw [getElem?_append_old hpc]; exact hy, hyg, hya⟩, by rw [deaf_old (Nat.le_of_lt hpc)]; exact h.heard, fun i a ha hg => ?_⟩
  obtain ⟨x, hx, hxa⟩ := touch_of ha
  rcases getElem?_append_cases hx with ⟨hi, hx'⟩ | ⟨_, hxu⟩
  · exact h.last i a (by rw [touchAt_of hx']; exact hxa) (by rw [← g?_old (u := u) hi]; exact hg)
  · rw [hn x hxu] at hxa; cases hxa

/-- The sender closes. -/
theorem ShutTr.new {Mine : Loc → Prop} {j c : Nat} {t : Trace} {y : MemOp} (h : PipeTr Mine j t) (hy : y.g = j ∧ y.act = .close c) : ShutTr Mine j c t.size (t ++ #[y]) := by
  have ey : (t ++ #[y])[t.size]? = some y := by simp
  have hn : ∀ op ∈ (#[y] : Array MemOp), op.act.touch? = none := by intro op hop; simp at hop; subst hop; rw [hy.2]; rfl
  have hq : Quiet0 #[y] := by intro op hop; simp at hop; subst hop; rw [hy.2]; simp
  refine ⟨h.toPipeBase.appNone hn (Deaf_quiet t 0 hq), ⟨y, ey, hy⟩, by rw [deaf_old (Nat.le_refl _)]; exact h.hearsj, fun i a ha hg => ?_⟩
  obtain ⟨x, hx, hxa⟩ := touch_of ha
  rcases getElem?_append_cases hx with ⟨hi, _⟩ | ⟨_, hxu⟩
  · exact hi
  · rw [hn x hxu] at hxa; cases hxa

/-- The receiver finds the channel closed: all is known to it. -/
theorem ShutTr.joined {Mine : Loc → Prop} {j c pc : Nat} {t : Trace} {x : MemOp} (h : ShutTr Mine j c pc t) (hx : x.g = 0 ∧ x.act = .recvClosed c) : Past0 (t ++ #[x]) := by
  obtain ⟨y, hy, hyg, hya⟩ := h.close
  have hpc := lt_size_of_getElem? hy
  have ex : (t ++ #[x])[t.size]? = some x := by simp
  have ey : (t ++ #[x])[pc]? = some y := by rw [getElem?_append_old hpc]; exact hy
  have hn : ∀ op ∈ (#[x] : Array MemOp), op.act.touch? = none := by intro op hop; simp at hop; subst hop; rw [hx.2]; rfl
  have edge : HappensBefore (t ++ #[x]) pc t.size :=
    .single (.inr ⟨.closed (by rw [act?_of ey, hya]) (by rw [act?_of ex, hx.2]), ⟨j, by rw [g?_of ey, hyg], by rw [deaf_old (Nat.le_of_lt hpc)]; exact h.heard⟩, ⟨0, by rw [g?_of ex, hx.1], by rw [deaf_old (Nat.le_refl _)]; exact h.tr.hears0⟩⟩)
  have jn : ∀ i a, touchAt t i = some a → t.g? i = some j → HappensBefore (t ++ #[x]) i t.size := fun i a ha hg => by
    have hlt := h.last i a ha hg
    obtain ⟨z, hz, hza⟩ := touch_of ha
    have hzg : z.g = j := by rw [g?_of hz] at hg; exact Option.some.inj hg
    exact .trans (hb_po hlt (by rw [getElem?_append_old (lt_size_of_getElem? hz)]; exact hz) ey (hzg.trans hyg.symm)) edge
  refine ⟨fun said => noRace_mute (h.tr.clean said) hn, fun i a ha hm => ?_, fun i g hg hg0 hc => ?_⟩
  · obtain ⟨z, hz, hza⟩ := touch_of ha
    rcases getElem?_append_cases hz with ⟨hi, hz'⟩ | ⟨_, hzu⟩
    · have ha' : touchAt t i = some a := by rw [touchAt_of hz']; exact hza
      rcases h.tr.old i a ha' hm with ⟨hk, _⟩ | ⟨hg, _⟩ | ⟨hg, _⟩
      · exact hk.app _
      · exact (knows_of_g hg).app _
      · exact ⟨t.size, x, ex, hx.1, .inr (jn i a ha' hg)⟩
    · rw [hn z hzu] at hza; cases hza
  · by_cases hgj : g = j
    · subst hgj
      obtain ⟨a, ha, hcx⟩ := hc
      obtain ⟨z, hz, hza⟩ := touch_of ha
      rcases getElem?_append_cases hz with ⟨hi, hz'⟩ | ⟨_, hzu⟩
      · exact ⟨t.size, by rw [g?_of ex, hx.1], jn i a (by rw [touchAt_of hz']; exact hza) (by rw [← g?_old (u := #[x]) hi]; exact hg)⟩
      · rw [hn z hzu] at hza; cases hza
    · exact over_app h.tr.over (fun op hop => .inr (.inr (hn op hop))) i g hg hg0 hgj hc
end Go.Proofs.Ythpanpedoeghoaa.Lift
set_option linter.unusedVariables false
set_option linter.unusedSimpArgs false
namespace Go.Proofs.Ythpanpedoeghoaa.Lift
open Go.Conc
open Go.ConcN (sumTo upd sumTo_upd upd_ne upd_same)

theorem Deaf_else (t : Trace) {i : Nat} (u : Trace) (hu : ∀ op ∈ u, op.g ≠ i) : Deaf (t ++ u) i = Deaf t i := by
  obtain ⟨l⟩ := u
  rw [Deaf_append]
  induction l with
  | nil => rfl
  | cons y l ih =>
    have hy := hu y (by simp)
    have e1 : deafStep i (Deaf t i) y = Deaf t i := by
      unfold deafStep
      split <;> simp [hy]
    rw [List.foldl_cons, e1]
    exact ih fun op hop => hu op (by simp at hop ⊢; exact .inr hop)

section
variable {P : Program} {c j : Nat} {S : World → Prop} {Mine : Loc → Prop} {z : Value} {Fin : Goroutine → World → Prop}

/-- All but goroutines 0 and j are only leaving. -/
structure Others (P : Program) (j : Nat) (t : Trace) (gs : Array Goroutine) (q : Nat → Nat) : Prop where
  old : ∀ i g, 0 < i → i ≠ j → gs[i]? = some g → QuitsD P (q i) (Deaf t i) g
  above : ∀ i, gs.size ≤ i → Deaf t i = 0

theorem Others.calm {t : Trace} {gs : Array Goroutine} {q : Nat → Nat} (h : Others P j t gs q) {i : Nat} {g : Goroutine} (h0 : 0 < i) (hj : i ≠ j) (hg : gs[i]? = some g) : g.status ≠ .blocked := by
  rcases (h.old i g h0 hj hg).status with e | e <;> rw [e] <;> simp

/-- Goroutines 0 and j do something. -/
theorem Others.move {t u : Trace} {gs gs' : Array Goroutine} {q : Nat → Nat} (h : Others P j t gs q) (hsz : gs'.size = gs.size) (hj : j < gs.size)
    (hsame : ∀ i g, 0 < i → i ≠ j → gs'[i]? = some g → gs[i]? = some g) (hu : ∀ op ∈ u, op.g = 0 ∨ op.g = j) : Others P j (t ++ u) gs' q := by
  have hd : ∀ i, i ≠ 0 → i ≠ j → Deaf (t ++ u) i = Deaf t i := fun i h0 hj => Deaf_else t u fun op hop => by rcases hu op hop with e | e <;> rw [e] <;> omega
  refine ⟨fun i g hi hij hg => ?_, fun i hi => ?_⟩
  · rw [hd i (by omega) hij]
    exact h.old i g hi hij (hsame i g hi hij hg)
  · rw [hsz] at hi
    rw [hd i (by omega) (by omega)]
    exact h.above i hi

/-- Whoever is let try again by a step of a goroutine's: the leavers are as they were. -/
theorem Others.same_woken {t : Trace} {gs : Array Goroutine} {q : Nat → Nat} (h : Others P j t gs q) {k : Nat} (hk : k = 0 ∨ k = j) {a g' : Goroutine} {w' : World} :
    ∀ i g, 0 < i → i ≠ j → ((gs.map (woken P a g' w')).setIfInBounds k g')[i]? = some g → gs[i]? = some g := by
  intro i g hi hij hg
  have hki : k ≠ i := by rcases hk with e | e <;> omega
  rw [Array.getElem?_setIfInBounds_ne hki, Array.getElem?_map] at hg
  obtain ⟨y, hy, rfl⟩ := Option.map_eq_some_iff.1 hg
  rw [woken_quitsD (h.old i y hi hij hy)]
  exact hy
theorem same_set {gs : Array Goroutine} {k : Nat} (hk : k = 0 ∨ k = j) {g' : Goroutine} : ∀ i g, 0 < i → i ≠ j → (gs.setIfInBounds k g')[i]? = some g → gs[i]? = some g := by
  intro i g hi hij hg
  have hki : k ≠ i := by rcases hk with e | e <;> omega
  rwa [Array.getElem?_setIfInBounds_ne hki] at hg
theorem same_set2 {gs : Array Goroutine} {k k' : Nat} (hk : k = 0 ∨ k = j) (hk' : k' = 0 ∨ k' = j) {x y : Goroutine} : ∀ i g, 0 < i → i ≠ j → ((gs.setIfInBounds k x).setIfInBounds k' y)[i]? = some g → gs[i]? = some g :=
  fun i g hi hij hg => same_set hk i g hi hij (same_set hk' i g hi hij hg)

/-- Nobody waits at the channel. -/
theorem partners_calm {t : Trace} {gs : Array Goroutine} {q : Nat → Nat} (h : Others P j t gs q) {i k : Nat} (hik : (i = 0 ∧ k = j) ∨ (i = j ∧ k = 0)) {x : Goroutine} (hx : gs[k]? = some x) (hs : x.status ≠ .blocked) (r : Nat) (send : Bool) :
    partners (gs.setIfInBounds i ph) r send = [] := by
  refine partners_nil fun m g hg => ?_
  rcases getElem?_stand gs i m g hg with ⟨_, rfl⟩ | ⟨hmi, hgm⟩
  · rfl
  · by_cases hmk : m = k
    · subst hmk
      rw [hx] at hgm
      obtain rfl := Option.some.inj hgm
      exact offersAt_of_not_blocked hs _ _
    · exact offersAt_of_not_blocked (h.calm (by omega) (by omega) hgm) _ _
theorem partners_waits {t : Trace} {gs : Array Goroutine} {q : Nat → Nat} (h : Others P j t gs q) {i k : Nat} (hik : (i = 0 ∧ k = j) ∨ (i = j ∧ k = 0)) (h0j : j ≠ 0) {x : Goroutine} (hx : gs[k]? = some x) {r : Nat} {send : Bool} (hof : offersAt x r send = [0]) :
    partners (gs.setIfInBounds i ph) r send = [(k, 0)] := by
  have hki : k ≠ i := by omega
  rw [partners_one (j := k) (g := x) (stand_get hki hx) fun m g hm hg => ?_, hof]
  · rfl
  · rcases getElem?_stand gs i m g hg with ⟨_, rfl⟩ | ⟨hmi, hgm⟩
    · rfl
    · exact offersAt_of_not_blocked (h.calm (by omega) (by omega) hgm) _ _

variable (P c j S Mine z Fin) in
inductive PInv (n0 : Nat) : Nat × Nat → Machine → Trace → Prop
  /-- The channel is open; 'vs' are still to pass. -/
  | opn (vs : List Value) (a b : Goroutine) (gs : Array Goroutine) (w : World) (sl : Option (Nat × Nat)) (t : Trace) (s r : Nat) (tm : Bool) (ra rb : Nat) (q : Nat → Nat)
      (hn : gs.size = n0) (h0 : gs[0]? = some a) (hj : gs[j]? = some b) (hO : Others P j t gs q) (hS : S w) (hc : w.heap[c]? = some (.chan 0 #[] false s r tm)) (hA : SitA P c S Mine z Fin vs ra a w) (hB : SitB P c S Mine vs rb b) (hpos : 0 < ra + rb) (hT : PipeTr Mine j t) :
      PInv n0 (vs.length + 2, ra + rb + sumTo gs.size q) (crowd gs w sl) t
  /-- It is closed; the receiver has not seen that yet. -/
  | shut (a : Goroutine) (gs : Array Goroutine) (w : World) (sl : Option (Nat × Nat)) (t : Trace) (s r : Nat) (tm : Bool) (n pc : Nat) (q : Nat → Nat)
      (hn : gs.size = n0) (h0 : gs[0]? = some a) (hL : Leavers P t gs q) (hc : w.heap[c]? = some (.chan 0 #[] true s r tm)) (hA : Goes P true (Aside c) (DA c S Mine) (StopA P c S Mine z Fin []) n a w) (hT : ShutTr Mine j c pc t) :
      PInv n0 (1, n + sumTo gs.size q) (crowd gs w sl) t

variable (P Fin) in
def Done (n0 : Nat) (m : Machine) (t : Trace) : Prop :=
  ∃ gs a w sl q, m = crowd gs w sl ∧ gs.size = n0 ∧ gs[0]? = some a ∧ Fin a w ∧ Leavers P t gs q ∧ Past0 t ∧ Deaf t 0 = 0

theorem setChan_passed (w : World) (c s r : Nat) (tm : Bool) : w.setChan c 0 #[] false (s + 1) (r + 1) tm = w.passed c s r tm := rfl

theorem ev0 {fn : FuncId} {pos : String} {es : Array Event} (h : ∀ e ∈ es, EvA Mine e) :
    (∀ op ∈ MemOp.ofEvents 0 fn pos es, op.g = 0) ∧ (∀ op ∈ MemOp.ofEvents 0 fn pos es, ∀ b, op.act.touch? = some b → b.write = true → Mine b.loc) ∧ Quiet0 (MemOp.ofEvents 0 fn pos es) := by
  refine ⟨fun op hop => by obtain ⟨e, _, rfl⟩ := Go.Conc.mem_ofEvents hop; rfl, fun op hop b hb hw => ?_, quiet_of_neutral fun e he => (h e he).1⟩
  obtain ⟨e, he, rfl⟩ := Go.Conc.mem_ofEvents hop
  obtain ⟨h1, h2⟩ := ofEvent_touch (h e he).1 hb
  rw [h1]; exact (h e he).2 (h2 ▸ hw)
theorem evJ {fn : FuncId} {pos : String} {es : Array Event} (h : ∀ e ∈ es, EvB Mine e) :
    (∀ op ∈ MemOp.ofEvents j fn pos es, op.g = j) ∧ (∀ op ∈ MemOp.ofEvents j fn pos es, ∀ b, op.act.touch? = some b → b.write = false ∧ ¬ Mine b.loc) ∧ Quiet0 (MemOp.ofEvents j fn pos es) := by
  refine ⟨fun op hop => by obtain ⟨e, _, rfl⟩ := Go.Conc.mem_ofEvents hop; rfl, fun op hop b hb => ?_, quiet_of_neutral fun e he => (h e he).1⟩
  obtain ⟨e, he, rfl⟩ := Go.Conc.mem_ofEvents hop
  obtain ⟨h1, h2⟩ := ofEvent_touch (h e he).1 hb
  rw [h1, h2]; exact (h e he).2
theorem PipeTr.ev0 {t : Trace} {fn : FuncId} {pos : String} {es : Array Event} (hT : PipeTr Mine j t) (h : ∀ e ∈ es, EvA Mine e) : PipeTr Mine j (t ++ MemOp.ofEvents 0 fn pos es) :=
  let ⟨a, b, d⟩ := Lift.ev0 h; hT.app0 a b d
theorem PipeTr.evJ {t : Trace} {fn : FuncId} {pos : String} {es : Array Event} (hT : PipeTr Mine j t) (h : ∀ e ∈ es, EvB Mine e) : PipeTr Mine j (t ++ MemOp.ofEvents j fn pos es) :=
  let ⟨a, b, d⟩ := Lift.evJ h; hT.appJ a b d
theorem PipeTr.comm {t u : Trace} (hT : PipeTr Mine j t) (h : ∀ op ∈ u, op.act.touch? = none ∧ op.act ≠ .mark .disable ∧ op.act ≠ .mark .enable) : PipeTr Mine j (t ++ u) :=
  hT.appNone (fun op hop => (h op hop).1) ⟨Deaf_quiet t 0 fun op hop => (h op hop).2, Deaf_quiet t j fun op hop => (h op hop).2⟩

theorem slipping {t : Trace} {gs : Array Goroutine} {q : Nat → Nat} {w : World} {sl : Option (Nat × Nat)} {i : Nat} {g : Goroutine} (hO : Others P j t gs q) (hi0 : 0 < i) (hij : i ≠ j) (hi : gs[i]? = some g) (hg : g.status = .running) (hjs : j < gs.size) :
    ∃ gs' q' ops, runT P (crowd gs w sl) i = (.next (crowd gs' w sl), ops) ∧ gs'.size = gs.size ∧ (∀ x, gs'[0]? = some x → ∃ y, gs[0]? = some y ∧ ∃ a a', x = woken P a a' w y) ∧
      (∀ k y, k ≠ i → gs[k]? = some y → ∃ a a', gs'[k]? = some (woken P a a' w y)) ∧ Others P j (t ++ ops) gs' q' ∧ sumTo gs.size q' < sumTo gs.size q ∧ (∀ op ∈ ops, op.g = i) ∧ (∀ op ∈ ops, op.act.touch? = none) := by
  have hq := hO.old i g hi0 hij hi
  have hi0' : (i == 0) = false := by simp; omega
  have hlt : i < gs.size := (Array.getElem?_eq_some_iff.1 hi).1
  cases hqi : q i with
  | zero => rw [hqi] at hq; rw [hq.1] at hg; cases hg
  | succ k =>
    rw [hqi] at hq
    rcases hq with ⟨hf, _⟩ | ⟨_, g', es, hm, hstp, hq'⟩
    · rw [hf] at hg; cases hg
    have hrunT := runT_crowd_go (P := P) (w := w) (sl := sl) (i := i) hi (by rw [hi0']; exact hstp w)
    have hsum : sumTo gs.size (upd q i k) + (k + 1) = sumTo gs.size q + k := by
      have := sumTo_upd q k id hlt
      simpa [hqi] using this
    have hops : ∀ op ∈ MemOp.ofEvents i g.frame.fn g.frame.place es, op.g = i := fun op hop => by obtain ⟨e, _, rfl⟩ := Go.Conc.mem_ofEvents hop; rfl
    have keep : ∀ k' y, k' ≠ i → gs[k']? = some y → ((gs.map (woken P g g' w)).setIfInBounds i g')[k']? = some (woken P g g' w y) := fun k' y hk hy => by
      rw [Array.getElem?_setIfInBounds_ne (Ne.symm hk), Array.getElem?_map, hy]; rfl
    refine ⟨_, upd q i k, _, hrunT, by simp, fun x hx => ?_, fun k' y hk hy => ⟨g, g', keep k' y hk hy⟩, ⟨fun m x hm0 hmj hx => ?_, fun m hm => ?_⟩, by omega, hops, fun op hop => ?_⟩
    · have hne : i ≠ 0 := by omega
      rw [Array.getElem?_setIfInBounds_ne hne, Array.getElem?_map] at hx
      obtain ⟨y, hy, rfl⟩ := Option.map_eq_some_iff.1 hx
      exact ⟨y, hy, g, g', rfl⟩
    · by_cases hmi : i = m
      · subst hmi
        rw [Array.getElem?_setIfInBounds_self_of_lt (by simpa using hlt)] at hx
        obtain rfl := Option.some.inj hx
        rw [upd_same, Deaf_own]
        exact hq'
      · rw [Array.getElem?_setIfInBounds_ne hmi, Array.getElem?_map] at hx
        obtain ⟨y, hy, rfl⟩ := Option.map_eq_some_iff.1 hx
        have hqm := hO.old m y hm0 hmj hy
        rw [woken_quitsD hqm, upd_ne q k (Ne.symm hmi), Deaf_other t hmi _ hops]
        exact hqm
    · rw [Deaf_other t (g' := i) (by simp at hm; omega) _ hops]
      exact hO.above m (by simpa using hm)
    · obtain ⟨e, he, rfl⟩ := Go.Conc.mem_ofEvents hop
      exact touch_mute (hm e he)
end
end Go.Proofs.Ythpanpedoeghoaa.Lift
set_option linter.unusedVariables false
set_option linter.unusedSimpArgs false
namespace Go.Proofs.Ythpanpedoeghoaa.Lift
open Go.Conc
open Go.ConcN (sumTo upd sumTo_upd upd_ne upd_same)

section
variable {P : Program} {c j n0 : Nat} {S : World → Prop} {Mine : Loc → Prop} {z : Value} {Fin : Goroutine → World → Prop}

theorem lt_of_get {gs : Array Goroutine} {i : Nat} {a : Goroutine} (h : gs[i]? = some a) : i < gs.size := (Array.getElem?_eq_some_iff.1 h).1
theorem get_set {gs : Array Goroutine} {i : Nat} {a x : Goroutine} (h : gs[i]? = some a) : (gs.setIfInBounds i x)[i]? = some x := Array.getElem?_setIfInBounds_self_of_lt (lt_of_get h)
theorem get_set_ne {gs : Array Goroutine} {i k : Nat} {a x : Goroutine} (hne : i ≠ k) (h : gs[k]? = some a) : (gs.setIfInBounds i x)[k]? = some a := by rw [Array.getElem?_setIfInBounds_ne hne]; exact h
theorem get_woken {gs : Array Goroutine} {i k : Nat} {a x g g' : Goroutine} {w' : World} (hne : i ≠ k) (h : gs[k]? = some a) : ((gs.map (woken P g g' w')).setIfInBounds i x)[k]? = some (woken P g g' w' a) := by
  rw [Array.getElem?_setIfInBounds_ne hne, Array.getElem?_map, h]; rfl
theorem get_woken_self {gs : Array Goroutine} {i : Nat} {a x g g' : Goroutine} {w' : World} (h : gs[i]? = some a) : ((gs.map (woken P g g' w')).setIfInBounds i x)[i]? = some x := Array.getElem?_setIfInBounds_self_of_lt (by simpa using lt_of_get h)

theorem pipe_opn (h0j : j ≠ 0) (hSt : ∀ w w₁, Aside c w w₁ → S w → S w₁) {vs : List Value} {a b : Goroutine} {gs : Array Goroutine} {w : World} {sl : Option (Nat × Nat)} {t : Trace} {s r : Nat} {tm : Bool} {ra rb : Nat} {q : Nat → Nat}
    (hn : gs.size = n0) (h0 : gs[0]? = some a) (hj : gs[j]? = some b) (hO : Others P j t gs q) (hS : S w) (hc : w.heap[c]? = some (.chan 0 #[] false s r tm)) (hA : SitA P c S Mine z Fin vs ra a w) (hB : SitB P c S Mine vs rb b) (hpos : 0 < ra + rb) (hT : PipeTr Mine j t) :
    ∃ m' ops μ', stepT P (crowd gs w sl) = (.next m', ops) ∧ Lt2 μ' (vs.length + 2, ra + rb + sumTo gs.size q) ∧ PInv P c j S Mine z Fin n0 μ' m' (t ++ ops) := by
  have sA := hA.status
  have sB := hB.status hS
  have hjs := lt_of_get hj
  have haw : ∀ g ∈ gs, awake g := by
    intro g hg
    obtain ⟨i, hi, rfl⟩ := Array.mem_iff_getElem.1 hg
    have hgi := Array.getElem?_eq_getElem hi
    by_cases hi0 : i = 0
    · subst hi0
      have : gs[0] = a := by simpa [hgi] using h0
      rw [this]
      exact awake_of (by rcases sA with ⟨h, _⟩ | ⟨h, _⟩ <;> simp [h])
    · by_cases hij : i = j
      · subst hij
        have : gs[i] = b := by simpa [hgi] using hj
        rw [this]
        exact awake_of (by rcases sB with ⟨h, _⟩ | ⟨h, _⟩ <;> simp [h])
      · exact awake_of ((hO.old i _ (by omega) hij hgi).status.elim .inl fun x => .inr (.inr x))
  have some1 : ∃ (i : Nat) (g : Goroutine), gs[i]? = some g ∧ g.status = .running := by
    rcases sA with ⟨h, _⟩ | ⟨_, h0'⟩
    · exact ⟨0, a, h0, h⟩
    · rcases sB with ⟨h, _⟩ | ⟨_, h1⟩
      · exact ⟨j, b, hj, h⟩
      · omega
  obtain ⟨i, g, d, sl', hi, hg, hst⟩ := crowd_pick (P := P) (w := w) (sl := sl) haw some1
  have hAs : Aside c w (w.at d) := Aside.at c w d
  have hS1 : S (w.at d) := hSt _ _ hAs hS
  have hc1 : (w.at d).heap[c]? = some (.chan 0 #[] false s r tm) := hc
  have hw2 : Aside c (w.at d) ((w.at d).passed c s r tm) := Aside.put c _ _
  by_cases hi0 : i = 0
  · -- THE RECEIVER MOVES
    subst hi0
    obtain rfl : g = a := by rw [h0] at hi; exact (Option.some.inj hi).symm
    rcases hA with ⟨n, rfl, hgo⟩ | ⟨_, g', rfl, _⟩
    · rcases hgo.cases with hstop | ⟨n', rfl, hstep⟩
      · have hat := hstop _ hAs
        obtain ⟨es, hcomm, hes⟩ := hat.comm
        rcases hB with ⟨k, rfl, hgb⟩ | ⟨rfl, v, vs', g₂, z', rfl, rfl, hnext⟩
        · -- the sender is on its way: the receiver waits
          have hbs : b.status ≠ .blocked := by rw [hgb.running (fun _ _ => StopB.running) w hS]; simp
          have hp := partners_calm hO (.inl ⟨rfl, rfl⟩) hj hbs c true
          refine ⟨_, _, (vs.length + 2, 0 + (k + 1) + sumTo gs.size q), hst.trans (crowd_waits h0 hcomm (fun cc hcc => ?_)), .right _ (by omega), ?_⟩
          · obtain rfl : cc = rcase c z := by simpa using hcc
            exact ways_recv_none hc1 hp
          · have hsz : (gs.setIfInBounds 0 (parked (core g) #[rcase c z] (.recv true))).size = gs.size := by simp
            rw [← hsz]
            exact .opn vs _ b _ (w.at d) sl' _ s r tm 0 (k + 1) q (hsz.trans hn) (get_set h0) (get_set_ne (Ne.symm h0j) hj) (hO.move hsz hjs (same_set (.inl rfl)) fun op hop => .inl ((ev0 hes).1 op hop)) hS1 hc1 (.inr ⟨rfl, g, rfl, fun w₁ h₁ => hstop w₁ (hAs.trans h₁)⟩) (.inl ⟨k, rfl, hgb⟩) (by omega) (hT.ev0 hes)
        · -- the sender waits: both are served in this one step
          obtain ⟨na, hna⟩ := (recvs_iff P c S Mine z _ vs' _ _).1 (hat.cons _ hw2)
          obtain ⟨nb, hnb⟩ := (sends_iff P c S Mine vs' _).1 hnext
          have hp := partners_waits (send := true) (r := c) hO (.inl ⟨rfl, rfl⟩) h0j hj (by rw [offersAt_parked_send]; simp)
          have hrun := crowd_recv_meets (P := P) (sl := sl') h0 hcomm hc1 h0j hj hp
          rw [setChan_passed] at hrun
          refine ⟨_, _, (vs'.length + 2, (na + 1) + (nb + 1) + sumTo gs.size q), hst.trans hrun, .left _ _ (by simp), ?_⟩
          rw [← Array.append_assoc]
          simp only [finishComm_send, finishComm_recv]
          have hsz : ((gs.setIfInBounds j (Go.Conc.served g₂ undef)).setIfInBounds 0 (Go.Conc.served (core g) (recvd true v true))).size = gs.size := by simp
          rw [← hsz]
          refine .opn vs' _ _ _ _ sl' _ (s + 1) (r + 1) tm (na + 1) (nb + 1) q (hsz.trans hn) (get_set (get_set_ne h0j h0)) (get_set_ne (Ne.symm h0j) (get_set hj)) ?_ (hSt _ _ hw2 hS1) (heap_put hc1) (.inl ⟨na, rfl, hna⟩) (.inl ⟨nb, rfl, hnb⟩) (by omega) ((hT.ev0 hes).comm (by simp [MemAct.touch?]))
          rw [Array.append_assoc]
          refine hO.move hsz hjs (same_set2 (.inr rfl) (.inl rfl)) fun op hop => ?_
          rcases Array.mem_append.1 hop with hop | hop
          · exact .inl ((ev0 hes).1 op hop)
          · simp at hop
            rcases hop with rfl | rfl | rfl | rfl <;> simp
      · -- a step of its own
        obtain ⟨a', w', es, hgo', ⟨hSS, hcc, hes⟩, hg'⟩ := hstep _ hAs
        have hc' : w'.heap[c]? = some (.chan 0 #[] false s r tm) := hcc.trans hc1
        have hrun := runT_crowd_go (P := P) (w := w.at d) (sl := sl') (i := 0) h0 (show stepG P (0 == 0) g (w.at d) = _ from hgo')
        refine ⟨_, _, (vs.length + 2, (n' + 1) + rb + sumTo gs.size q), hst.trans hrun, .right _ (by omega), ?_⟩
        have hsz : ((gs.map (woken P g a' w')).setIfInBounds 0 a').size = gs.size := by simp
        have hj' : ((gs.map (woken P g a' w')).setIfInBounds 0 a')[j]? = some b := by rw [get_woken (Ne.symm h0j) hj, hB.woken hS hc']
        rw [← hsz]
        exact .opn vs a' b _ w' sl' _ s r tm (n' + 1) rb q (hsz.trans hn) (get_woken_self h0) hj' (hO.move hsz hjs (hO.same_woken (.inl rfl)) fun op hop => .inl ((ev0 hes).1 op hop)) (hSS hS1) hc' (.inl ⟨n', rfl, hg'⟩) hB (by omega) (hT.ev0 hes)
    · simp [parked] at hg
  by_cases hij : i = j
  · -- THE SENDER MOVES
    subst hij
    obtain rfl : g = b := by rw [hj] at hi; exact (Option.some.inj hi).symm
    have hi0' : (i == 0) = false := by simp [hi0]
    rcases hB with ⟨k, rfl, hgb⟩ | ⟨_, v, vs', g₂, z', _, rfl, _⟩
    · rcases hgb.cases with hstop | ⟨k', rfl, hstep⟩
      · have hat := hstop _ hS1
        cases vs with
        | nil =>
          -- it closes the channel
          obtain ⟨_, hwake, g₂, es, nq, hclose, hes, hq⟩ := hat
          have hgo := hclose _ s r tm hS1 hc1
          have hw3 : Aside c (w.at d) ((w.at d).shut c s r tm) := Aside.put c _ _
          have hc2 : ((w.at d).shut c s r tm).heap[c]? = some (.chan 0 #[] true s r tm) := heap_put hc1
          have hwk : ∀ o, woken P g g₂ ((w.at d).shut c s r tm) o = o.again ((w.at d).shut c s r tm) := by
            intro o; unfold Go.Conc.woken; rcases hq.status with h | h <;> simp [hwake, h]
          have hA' : ∃ n, Goes P true (Aside c) (DA c S Mine) (StopA P c S Mine z Fin []) n (a.again ((w.at d).shut c s r tm)) ((w.at d).shut c s r tm) := by
            rcases hA with ⟨n, _, hg⟩ | ⟨_, g, rfl, hs⟩
            · rw [again_running _ (.inl (hg.running (fun _ _ => StopA.running) w (Aside.refl c w)))]
              exact ⟨n, Goes.rely (R := Aside c) (fun _ _ _ h h' => Aside.trans h h') hg (hAs.trans hw3)⟩
            · rw [again_parked_shut rfl hc2]
              exact ⟨0, fun w₁ h₁ => (hs w₁ ((hAs.trans hw3).trans h₁)).again⟩
          obtain ⟨na, hna⟩ := hA'
          have hrun := runT_crowd_go (P := P) (w := w.at d) (sl := sl') (i := i) hj (by rw [hi0']; exact hgo)
          have hsz : ((gs.map (woken P g g₂ ((w.at d).shut c s r tm))).setIfInBounds i g₂).size = gs.size := by simp
          have hops : ∀ op ∈ MemOp.ofEvents i g.frame.fn g.frame.place (es.push ⟨.obj c, true, true⟩), op.g = i := fun op hop => by obtain ⟨e, _, rfl⟩ := Go.Conc.mem_ofEvents hop; rfl
          refine ⟨_, _, (1, na + sumTo gs.size (upd q i nq)), hst.trans hrun, .left _ _ (by simp), ?_⟩
          have hTS : ShutTr Mine i c (t ++ MemOp.ofEvents i g.frame.fn g.frame.place es).size (t ++ MemOp.ofEvents i g.frame.fn g.frame.place (es.push ⟨.obj c, true, true⟩)) := by
            rw [ofEvents_push, Array.push_eq_append, ← Array.append_assoc]
            exact ShutTr.new (hT.evJ hes) ⟨rfl, rfl⟩
          have hO' := hO.move (u := MemOp.ofEvents i g.frame.fn g.frame.place (es.push ⟨.obj c, true, true⟩)) hsz hjs (hO.same_woken (.inr rfl)) (fun op hop => .inr (hops op hop))
          rw [← hsz]
          refine .shut _ _ _ sl' _ s r tm na _ (upd q i nq) (hsz.trans hn) (by rw [get_woken h0j h0, hwk]) ⟨fun m x hm hx => ?_, hO'.above⟩ hc2 hna hTS
          by_cases hmi : m = i
          · subst hmi
            rw [get_woken_self hj] at hx
            obtain rfl := Option.some.inj hx
            rw [upd_same, show Deaf (t ++ MemOp.ofEvents m g.frame.fn g.frame.place (es.push ⟨.obj c, true, true⟩)) m = 0 from by
              rw [ofEvents_push, Array.push_eq_append, ← Array.append_assoc, Deaf_quiet _ m (by intro op hop; simp at hop; subst hop; simp [MemAct.ofEvent])]
              exact (hT.evJ hes).hearsj]
            exact QuitsD.of_quitsIn hq
          · rw [upd_ne q nq hmi]
            exact hO'.old m x hm hmi hx
        | cons v vs' =>
          obtain ⟨_, g₂, z', es, hcomm, hes, hnext⟩ := hat
          have hcm : stepG P (i == 0) g (w.at d) = .comm g₂ #[scase c v z'] true .send (w.at d) es := by rw [hi0']; exact hcomm _ hS1
          rcases hA with ⟨n, rfl, hga⟩ | ⟨rfl, g', rfl, hs⟩
          · -- the receiver is on its way: the sender waits
            have has : a.status ≠ .blocked := by rw [hga.running (fun _ _ => StopA.running) w (Aside.refl c w)]; simp
            have hp := partners_calm hO (.inr ⟨rfl, rfl⟩) h0 has c false
            refine ⟨_, _, ((v :: vs').length + 2, (n + 1) + 0 + sumTo gs.size q), hst.trans (crowd_waits hj hcm (fun cc hcc => ?_)), .right _ (by omega), ?_⟩
            · obtain rfl : cc = scase c v z' := by simpa using hcc
              exact ways_send_none hc1 (Nat.zero_le _) hp
            · have hsz : (gs.setIfInBounds i (parked g₂ #[scase c v z'] .send)).size = gs.size := by simp
              rw [← hsz]
              exact .opn (v :: vs') a _ _ (w.at d) sl' _ s r tm (n + 1) 0 q (hsz.trans hn) (get_set_ne h0j h0) (get_set hj) (hO.move hsz hjs (same_set (.inr rfl)) fun op hop => .inr ((evJ hes).1 op hop)) hS1 hc1 (.inl ⟨n, rfl, Goes.rely (R := Aside c) (fun _ _ _ h h' => Aside.trans h h') hga hAs⟩) (.inr ⟨rfl, v, vs', g₂, z', rfl, rfl, hnext⟩) (by omega) (hT.evJ hes)
          · -- the receiver waits: both are served in this one step
            obtain ⟨na, hna⟩ := (recvs_iff P c S Mine z _ vs' _ _).1 ((hs _ hAs).cons _ hw2)
            obtain ⟨nb, hnb⟩ := (sends_iff P c S Mine vs' _).1 hnext
            have hp := partners_waits (send := false) (r := c) hO (.inr ⟨rfl, rfl⟩) h0j h0 (by rw [offersAt_parked_recv]; simp)
            have hrun := crowd_send_meets (P := P) (sl := sl') hj hcm hc1 (Ne.symm h0j) h0 hp
            rw [setChan_passed] at hrun
            refine ⟨_, _, (vs'.length + 2, (na + 1) + (nb + 1) + sumTo gs.size q), hst.trans hrun, .left _ _ (by simp), ?_⟩
            rw [← Array.append_assoc]
            simp only [finishComm_send, finishComm_recv]
            have hsz : ((gs.setIfInBounds 0 (Go.Conc.served (core g') (recvd true v true))).setIfInBounds i (Go.Conc.served g₂ undef)).size = gs.size := by simp
            rw [← hsz]
            refine .opn vs' _ _ _ _ sl' _ (s + 1) (r + 1) tm (na + 1) (nb + 1) q (hsz.trans hn) (get_set_ne h0j (get_set h0)) (get_set (get_set_ne (Ne.symm h0j) hj)) ?_ (hSt _ _ hw2 hS1) (heap_put hc1) (.inl ⟨na, rfl, hna⟩) (.inl ⟨nb, rfl, hnb⟩) (by omega) ((hT.evJ hes).comm (by simp [MemAct.touch?]))
            rw [Array.append_assoc]
            refine hO.move hsz hjs (same_set2 (.inl rfl) (.inr rfl)) fun op hop => ?_
            rcases Array.mem_append.1 hop with hop | hop
            · exact .inr ((evJ hes).1 op hop)
            · simp at hop
              rcases hop with rfl | rfl | rfl | rfl <;> simp
      · -- a step of its own: the world is handed back
        obtain ⟨b', w', es, hgo, ⟨rfl, hes⟩, hg'⟩ := hstep _ hS1
        have hrun := runT_crowd_go (P := P) (w := w.at d) (sl := sl') (i := i) hj (by rw [hi0']; exact hgo)
        refine ⟨_, _, (vs.length + 2, ra + (k' + 1) + sumTo gs.size q), hst.trans hrun, .right _ (by omega), ?_⟩
        have hsz : ((gs.map (woken P g b' (w.at d))).setIfInBounds i b').size = gs.size := by simp
        rw [← hsz]
        exact .opn vs a b' _ (w.at d) sl' _ s r tm ra (k' + 1) q (hsz.trans hn) (by rw [get_woken h0j h0, hA.woken hc1]) (get_woken_self hj) (hO.move hsz hjs (hO.same_woken (.inr rfl)) fun op hop => .inr ((evJ hes).1 op hop)) hS1 hc1 (hA.rely hAs) (.inl ⟨k', rfl, hg'.anyWorld default⟩) (by omega) (hT.evJ hes)
    · simp [parked] at hg
  · -- a leaver slips
    obtain ⟨gs', q', ops, hr, hsz, _, hk, hO', hlt, hops, hno⟩ := slipping (w := w.at d) (sl := sl') hO (by omega) hij hi hg hjs
    obtain ⟨a1, a2, e0⟩ := hk 0 a (Ne.symm hi0) h0
    obtain ⟨b1, b2, ej⟩ := hk j b (Ne.symm hij) hj
    rw [hA.woken hc1] at e0
    rw [hB.woken hS hc1] at ej
    refine ⟨_, _, (vs.length + 2, ra + rb + sumTo gs.size q'), hst.trans hr, .right _ (by omega), ?_⟩
    rw [← hsz]
    exact .opn vs a b gs' (w.at d) sl' _ s r tm ra rb q' (hsz.trans hn) e0 ej hO' hS1 hc1 (hA.rely hAs) hB hpos (hT.appNone hno ⟨Deaf_other t (g := 0) (g' := i) hi0 _ hops, Deaf_other t (g := j) (g' := i) hij _ hops⟩)

theorem pipe_shut (h0j : j ≠ 0) {a : Goroutine} {gs : Array Goroutine} {w : World} {sl : Option (Nat × Nat)} {t : Trace} {s r : Nat} {tm : Bool} {n pc : Nat} {q : Nat → Nat}
    (hn : gs.size = n0) (h0 : gs[0]? = some a) (hL : Leavers P t gs q) (hc : w.heap[c]? = some (.chan 0 #[] true s r tm)) (hA : Goes P true (Aside c) (DA c S Mine) (StopA P c S Mine z Fin []) n a w) (hT : ShutTr Mine j c pc t) :
    ∃ m' ops, stepT P (crowd gs w sl) = (.next m', ops) ∧ (Done P Fin n0 m' (t ++ ops) ∨ ∃ μ', Lt2 μ' (1, n + sumTo gs.size q) ∧ PInv P c j S Mine z Fin n0 μ' m' (t ++ ops)) := by
  have hra : a.status = .running := hA.running (fun _ _ => StopA.running) w (Aside.refl c w)
  obtain ⟨i, g, d, sl', hi, hg, hst⟩ := crowd_pick (P := P) (w := w) (sl := sl) (crowd_awake hL h0 hra) ⟨0, a, h0, hra⟩
  have hAs : Aside c w (w.at d) := Aside.at c w d
  have hc1 : (w.at d).heap[c]? = some (.chan 0 #[] true s r tm) := hc
  by_cases hi0 : i = 0
  · subst hi0
    obtain rfl : g = a := by rw [h0] at hi; exact (Option.some.inj hi).symm
    rcases hA.cases with hstop | ⟨n', rfl, hstep⟩
    · -- the receiver finds the channel closed
      have hat := hstop _ hAs
      obtain ⟨es, hcomm, hes⟩ := hat.comm
      have hp : partners (gs.setIfInBounds 0 ph) c true = [] := partners_nil fun m x hx => by
        rcases getElem?_stand gs 0 m x hx with ⟨_, rfl⟩ | ⟨hm, hxm⟩
        · rfl
        · exact offersAt_of_not_blocked (by rcases (hL.old m x (by omega) hxm).status with e | e <;> rw [e] <;> simp) _ _
      have hrun := crowd_recv_closed (P := P) (sl := sl') h0 hcomm hc1 hp
      refine ⟨_, _, hst.trans hrun, .inl ?_⟩
      rw [← Array.append_assoc]
      have hT1 := hT.app0 h0j (ev0 hes).1 (ev0 hes).2.1 (ev0 hes).2.2 (u := MemOp.ofEvents 0 g.frame.fn g.frame.place es)
      have hsz : (gs.setIfInBounds 0 ((core g).finishComm P #[rcase c z] (.recv true) 0 z false)).size = gs.size := by simp
      have hops : ∀ op ∈ MemOp.ofEvents 0 g.frame.fn g.frame.place es ++ #[{ g := 0, fn := (core g).frame.fn, pos := (core g).frame.place, act := .recvClosed c }], op.g = 0 := fun op hop => by
        rcases Array.mem_append.1 hop with hop | hop
        · exact (ev0 hes).1 op hop
        · simp at hop; rw [hop]
      refine ⟨_, _, _, _, q, rfl, hsz.trans hn, get_set h0, ?_, ⟨fun m x hm hx => ?_, fun m hm => ?_⟩, hT1.joined ⟨rfl, rfl⟩, ?_⟩
      · rw [finishComm_recv]; exact hat.nil _ (Aside.refl c _)
      · rw [Array.getElem?_setIfInBounds_ne (by omega)] at hx
        rw [Array.append_assoc, Deaf_else t _ fun op hop => by rw [hops op hop]; omega]
        exact hL.old m x hm hx
      · rw [Array.append_assoc, Deaf_else t _ fun op hop => by rw [hops op hop]; have := size_pos_of h0; rw [hsz] at hm; omega]
        exact hL.above m (by rw [hsz] at hm; exact hm)
      · rw [Deaf_quiet _ 0 (by intro op hop; simp at hop; subst hop; simp)]
        exact hT1.tr.hears0
    · obtain ⟨a', w', es, hgo, ⟨_, hcc, hes⟩, hg'⟩ := hstep _ hAs
      have hrun := runT_crowd_go (P := P) (w := w.at d) (sl := sl') (i := 0) h0 (show stepG P (0 == 0) g (w.at d) = _ from hgo)
      have hsz : ((gs.map (woken P g a' w')).setIfInBounds 0 a').size = gs.size := by simp
      refine ⟨_, _, hst.trans hrun, .inr ⟨(1, n' + sumTo gs.size q), .right _ (by omega), ?_⟩⟩
      rw [← hsz]
      exact .shut a' _ w' sl' _ s r tm n' pc q (hsz.trans hn) (get_woken_self h0) (leavers_own hL h0 (ev0 hes).1) (hcc.trans hc1) hg' (hT.app0 h0j (ev0 hes).1 (ev0 hes).2.1 (ev0 hes).2.2)
  · -- somebody leaves
    have hq := hL.old i g (by omega) hi
    have hi0' : (i == 0) = false := by simp [hi0]
    have hlt : i < gs.size := lt_of_get hi
    cases hqi : q i with
    | zero => rw [hqi] at hq; rw [hq.1] at hg; cases hg
    | succ k =>
      rw [hqi] at hq
      rcases hq with ⟨hf, _⟩ | ⟨_, g', es, hm, hstp, hq'⟩
      · rw [hf] at hg; cases hg
      have hrunT := runT_crowd_go (P := P) (w := w.at d) (sl := sl') (i := i) hi (by rw [hi0']; exact hstp (w.at d))
      have hsum : sumTo gs.size (upd q i k) + (k + 1) = sumTo gs.size q + k := by
        have := sumTo_upd q k id hlt
        simpa [hqi] using this
      have hops : ∀ op ∈ MemOp.ofEvents i g.frame.fn g.frame.place es, op.g = i := fun op hop => by obtain ⟨e, _, rfl⟩ := Go.Conc.mem_ofEvents hop; rfl
      have hno : ∀ op ∈ MemOp.ofEvents i g.frame.fn g.frame.place es, op.act.touch? = none := fun op hop => by obtain ⟨e, he, rfl⟩ := Go.Conc.mem_ofEvents hop; exact touch_mute (hm e he)
      have hsz : ((gs.map (woken P g g' (w.at d))).setIfInBounds i g').size = gs.size := by simp
      have hd0 : Deaf (t ++ MemOp.ofEvents i g.frame.fn g.frame.place es) 0 = Deaf t 0 := Deaf_other t (g := 0) (g' := i) hi0 _ hops
      have hL' : Leavers P (t ++ MemOp.ofEvents i g.frame.fn g.frame.place es) ((gs.map (woken P g g' (w.at d))).setIfInBounds i g') (upd q i k) := by
        refine ⟨fun m x hm0 hx => ?_, fun m hm => ?_⟩
        · by_cases hmi : i = m
          · subst hmi
            rw [get_woken_self hi] at hx
            obtain rfl := Option.some.inj hx
            rw [upd_same, Deaf_own]
            exact hq'
          · rw [Array.getElem?_setIfInBounds_ne hmi, Array.getElem?_map] at hx
            obtain ⟨y, hy, rfl⟩ := Option.map_eq_some_iff.1 hx
            have hqm := hL.old m y hm0 hy
            rw [woken_quitsD hqm, upd_ne q k (Ne.symm hmi), Deaf_other t hmi _ hops]
            exact hqm
        · rw [Deaf_other t (g' := i) (by simp at hm; omega) _ hops]
          exact hL.above m (by simpa using hm)
      refine ⟨_, _, hst.trans hrunT, .inr ⟨(1, n + sumTo gs.size (upd q i k)), .right _ (by omega), ?_⟩⟩
      rw [← hsz]
      refine .shut a _ (w.at d) sl' _ s r tm n pc (upd q i k) (hsz.trans hn) (by rw [get_woken hi0 h0, woken_running hra]) hL' hc1 (Goes.rely (R := Aside c) (fun _ _ _ h h' => Aside.trans h h') hA hAs) (hT.appNone hno hd0)
end
end Go.Proofs.Ythpanpedoeghoaa.Lift
set_option linter.unusedVariables false
set_option linter.unusedSimpArgs false
namespace Go.Proofs.Ythpanpedoeghoaa.Lift
open Go.Conc
open Go.ConcN (sumTo upd sumTo_upd upd_ne upd_same)

section
variable {P : Program}

/-- A walk ('Goes') beside leavers. -/
theorem crowd_goes {D : World → World → Array Event → Prop} {Stop : Goroutine → World → Prop} (hD : ∀ w w' es, D w w' es → ∀ e ∈ es, e.loc ≠ .mark .disable) :
    ∀ (M n : Nat) (gs : Array Goroutine) (a : Goroutine) (w : World) (sl : Option (Nat × Nat)) (t : Trace) (q : Nat → Nat), n + sumTo gs.size q ≤ M → gs[0]? = some a → Leavers P t gs q → Past0 t → Deaf t 0 = 0 →
      Goes P true AtRel D Stop n a w →
      ∃ (N : Nat) (gs' : Array Goroutine) (a' : Goroutine) (w' : World) (sl' : Option (Nat × Nat)) (u : Trace) (q' : Nat → Nat),
        runNT P N (crowd gs w sl) t = (.next (crowd gs' w' sl'), t ++ u) ∧ gs'.size = gs.size ∧ gs'[0]? = some a' ∧ (∀ w₁, AtRel w' w₁ → Stop a' w₁) ∧ Leavers P (t ++ u) gs' q' ∧ Past0 (t ++ u) ∧ Deaf (t ++ u) 0 = 0 := by
  intro M
  induction M with
  | zero =>
    intro n gs a w sl t q hM h0 hL hP hd hG
    obtain rfl : n = 0 := by omega
    exact ⟨0, gs, a, w, sl, #[], q, by simp [runNT], rfl, h0, hG, by simpa using hL, by simpa using hP, by simpa using hd⟩
  | succ M ih =>
    intro n gs a w sl t q hM h0 hL hP hd hG
    cases n with
    | zero => exact ⟨0, gs, a, w, sl, #[], q, by simp [runNT], rfl, h0, hG, by simpa using hL, by simpa using hP, by simpa using hd⟩
    | succ n =>
      rcases hG with hstop | ⟨hrun, hstep⟩
      · exact ⟨0, gs, a, w, sl, #[], q, by simp [runNT], rfl, h0, hstop, by simpa using hL, by simpa using hP, by simpa using hd⟩
      obtain ⟨i, g, d, sl', hi, hg, hst⟩ := crowd_pick (P := P) (w := w) (sl := sl) (crowd_awake hL h0 hrun) ⟨0, a, h0, hrun⟩
      rcases Nat.eq_zero_or_pos i with rfl | hpos
      · obtain rfl : g = a := by rw [h0] at hi; exact (Option.some.inj hi).symm
        obtain ⟨a', w', es, hgo, hd', hG'⟩ := goes_elim (hstep (w.at d) ⟨d, rfl⟩)
        have hrunT := runT_crowd_go (P := P) (w := w.at d) (sl := sl') (i := 0) h0 (show stepG P (0 == 0) g (w.at d) = _ from hgo)
        have hops : ∀ op ∈ MemOp.ofEvents 0 g.frame.fn g.frame.place es, op.g = 0 := fun op hop => by obtain ⟨e, _, rfl⟩ := Go.Conc.mem_ofEvents hop; rfl
        have hsz : ((gs.map (woken P g a' w')).setIfInBounds 0 a').size = gs.size := by simp
        obtain ⟨N, gs', a'', w'', sl'', u, q', e1, e2, e3, e4, e5, e6, e7⟩ := ih n ((gs.map (woken P g a' w')).setIfInBounds 0 a') a' w' sl' _ q (by rw [hsz]; omega) (get_woken_self h0) (leavers_own hL h0 hops) (hP.own _ _ _) (by rw [Deaf_own, hd]; exact deafBehind_zero (hD _ _ _ hd')) hG'
        refine ⟨N + 1, gs', a'', w'', sl'', _ ++ u, q', ?_, e2.trans hsz, e3, e4, by rw [← Array.append_assoc]; exact e5, by rw [← Array.append_assoc]; exact e6, by rw [← Array.append_assoc]; exact e7⟩
        rw [← Array.append_assoc, ← e1]
        simp only [runNT, hst, hrunT]
      · obtain ⟨gs', q', ops, hr, hsz, h0', hL', hP', hlt, hops⟩ := leaver_slip (w := w.at d) (sl := sl') hL hpos hi hg h0 hrun hP
        obtain ⟨N, gs'', a'', w'', sl'', u, q'', e1, e2, e3, e4, e5, e6, e7⟩ := ih (n + 1) gs' a (w.at d) sl' (t ++ ops) q' (by rw [hsz]; omega) h0' hL' hP' (by rw [Deaf_other t (g := 0) (g' := i) (by omega) _ hops]; exact hd) (Goes.rely atRel_trans (.inr ⟨hrun, hstep⟩) ⟨d, rfl⟩)
        refine ⟨N + 1, gs'', a'', w'', sl'', ops ++ u, q'', ?_, e2.trans hsz, e3, e4, by rw [← Array.append_assoc]; exact e5, by rw [← Array.append_assoc]; exact e6, by rw [← Array.append_assoc]; exact e7⟩
        rw [← Array.append_assoc, ← e1]
        simp only [runNT, hst, hr]

variable (P) in
/-- THE STOP AHEAD OF THE PHASE: at a go statement; behind it parent and child follow the two scripts for the same values over an open channel without a buffer. -/
def AtFork (Fin : Goroutine → World → Prop) (a : Goroutine) (w : World) : Prop :=
  a.status = .running ∧ ∃ (a' child : Goroutine) (w' : World) (es : Array Event) (c : Nat) (S : World → Prop) (Mine : Loc → Prop) (z : Value) (vs : List Value) (s r : Nat) (tm : Bool),
    stepG P true a w = .spawn a' child w' es ∧ (∀ e ∈ es, e.loc ≠ .mark .disable) ∧ (∀ w w₁, Aside c w w₁ → S w → S w₁) ∧ S w' ∧ w'.heap[c]? = some (.chan 0 #[] false s r tm) ∧
    Recvs P c S Mine z Fin vs a' w' ∧ Sends P c S Mine vs child

theorem pipe_run {c j n0 : Nat} {S : World → Prop} {Mine : Loc → Prop} {z : Value} {Fin : Goroutine → World → Prop} (h0j : j ≠ 0) (hSt : ∀ w w₁, Aside c w w₁ → S w → S w₁) :
    ∀ μ m t, PInv P c j S Mine z Fin n0 μ m t → ∃ N m' u, runNT P N m t = (.next m', t ++ u) ∧ Done P Fin n0 m' (t ++ u) := by
  intro μ
  have wf := (Prod.lex Nat.lt_wfRel Nat.lt_wfRel).wf
  induction μ using wf.induction with
  | _ μ ih =>
    intro m t hI
    have hs : ∃ m' ops, stepT P m = (.next m', ops) ∧ (Done P Fin n0 m' (t ++ ops) ∨ ∃ μ', Lt2 μ' μ ∧ PInv P c j S Mine z Fin n0 μ' m' (t ++ ops)) := by
      match μ, m, t, hI with
      | _, _, _, .opn vs a b gs w sl t s r tm ra rb q hn h0 hj hO hS hc hA hB hpos hT =>
        obtain ⟨m', ops, μ', e1, e2, e3⟩ := pipe_opn h0j hSt hn h0 hj hO hS hc hA hB hpos hT
        exact ⟨m', ops, e1, .inr ⟨μ', e2, e3⟩⟩
      | _, _, _, .shut a gs w sl t s r tm n pc q hn h0 hL hc hA hT => exact pipe_shut h0j hn h0 hL hc hA hT
    obtain ⟨m', ops, hst, hd | ⟨μ', hlt, hI'⟩⟩ := hs
    · exact ⟨1, m', ops, by simp [runNT, hst], hd⟩
    · obtain ⟨N, m'', u, e1, e2⟩ := ih μ' hlt m' (t ++ ops) hI'
      refine ⟨N + 1, m'', ops ++ u, ?_, by rw [← Array.append_assoc]; exact e2⟩
      rw [← Array.append_assoc, ← e1]
      simp only [runNT, hst]

/-- ████ THE PHASE. ████ From a walk to a go statement that starts a sender, to where the receiver has found the channel closed. -/
theorem pipe_phase {D : World → World → Array Event → Prop} {Fin : Goroutine → World → Prop} (hD : ∀ w w' es, D w w' es → ∀ e ∈ es, e.loc ≠ .mark .disable)
    {n : Nat} {gs : Array Goroutine} {a : Goroutine} {w : World} {sl : Option (Nat × Nat)} {t : Trace} {q : Nat → Nat} (h0 : gs[0]? = some a) (hL : Leavers P t gs q) (hP : Past0 t) (hd : Deaf t 0 = 0) (hG : Goes P true AtRel D (AtFork P Fin) n a w) :
    ∃ (N : Nat) (gs' : Array Goroutine) (a' : Goroutine) (w' : World) (sl' : Option (Nat × Nat)) (u : Trace) (q' : Nat → Nat),
      runNT P N (crowd gs w sl) t = (.next (crowd gs' w' sl'), t ++ u) ∧ gs'.size = gs.size + 1 ∧ gs'[0]? = some a' ∧ Fin a' w' ∧ Leavers P (t ++ u) gs' q' ∧ Past0 (t ++ u) ∧ Deaf (t ++ u) 0 = 0 := by
  obtain ⟨N1, gs1, a1, w1, sl1, u1, q1, e1, e2, e3, e4, e5, e6, e7⟩ := crowd_goes hD _ n gs a w sl t q (Nat.le_refl _) h0 hL hP hd hG
  -- leavers may slip ahead of the go statement
  have fork : ∀ (M : Nat) (gs : Array Goroutine) (w : World) (sl : Option (Nat × Nat)) (t : Trace) (q : Nat → Nat), sumTo gs.size q ≤ M → gs[0]? = some a1 → Leavers P t gs q → Past0 t → Deaf t 0 = 0 → (∀ w₁, AtRel w w₁ → AtFork P Fin a1 w₁) →
      ∃ (N : Nat) (gs' : Array Goroutine) (a' : Goroutine) (w' : World) (sl' : Option (Nat × Nat)) (u : Trace) (q' : Nat → Nat),
        runNT P N (crowd gs w sl) t = (.next (crowd gs' w' sl'), t ++ u) ∧ gs'.size = gs.size + 1 ∧ gs'[0]? = some a' ∧ Fin a' w' ∧ Leavers P (t ++ u) gs' q' ∧ Past0 (t ++ u) ∧ Deaf (t ++ u) 0 = 0 := by
    intro M
    induction M with
    | zero => ?_
    | succ M ih => ?_
    all_goals
      intro gs w sl t q hM h0 hL hP hd hF
      have hrun : a1.status = .running := (hF w (atRel_refl w)).1
      obtain ⟨i, g, d, sl', hi, hg, hst⟩ := crowd_pick (P := P) (w := w) (sl := sl) (crowd_awake hL h0 hrun) ⟨0, a1, h0, hrun⟩
      rcases Nat.eq_zero_or_pos i with rfl | hpos
      · obtain rfl : g = a1 := by rw [h0] at hi; exact (Option.some.inj hi).symm
        obtain ⟨_, a', child, w', es, c, S, Mine, z, vs, s, r, tm, hsp, hes, hSt, hS, hc, hA, hB⟩ := hF (w.at d) ⟨d, rfl⟩
        have hsz0 := size_pos_of h0
        have hrunT := runT_crowd_spawn (P := P) (w := w.at d) (sl := sl') (i := 0) h0 (show stepG P (0 == 0) g (w.at d) = _ from hsp)
        have hops : ∀ op ∈ MemOp.ofEvents 0 g.frame.fn g.frame.place es, op.g = 0 := fun op hop => by obtain ⟨e, _, rfl⟩ := Go.Conc.mem_ofEvents hop; rfl
        have hd1 : Deaf (t ++ MemOp.ofEvents 0 g.frame.fn g.frame.place es) 0 = 0 := by rw [Deaf_own, hd]; exact deafBehind_zero hes
        have hdj : Deaf (t ++ MemOp.ofEvents 0 g.frame.fn g.frame.place es) gs.size = 0 := by
          rw [Deaf_other t (g' := 0) (by omega) _ hops]; exact hL.above _ (Nat.le_refl _)
        have hT := pipe_fork (Mine := Mine) (x := { g := 0, fn := g.frame.fn, pos := g.frame.place, act := .go gs.size }) (y := { g := gs.size, fn := child.frame.fn, pos := g.frame.place, act := .start }) (hP.own g.frame.fn g.frame.place es) hd1 hdj (by omega) ⟨rfl, rfl⟩ ⟨rfl, rfl⟩
        obtain ⟨na, hna⟩ := (recvs_iff P c S Mine z _ vs _ _).1 hA
        obtain ⟨nb, hnb⟩ := (sends_iff P c S Mine vs _).1 hB
        have hsz : ((gs.setIfInBounds 0 a').push child).size = gs.size + 1 := by simp
        have g0 : ((gs.setIfInBounds 0 a').push child)[0]? = some a' := by rw [Array.getElem?_push, if_neg (by simp; omega)]; exact get_set h0
        have gj : ((gs.setIfInBounds 0 a').push child)[gs.size]? = some child := by rw [Array.getElem?_push]; simp
        have hO : Others P gs.size (t ++ MemOp.ofEvents 0 g.frame.fn g.frame.place es ++ #[{ g := 0, fn := g.frame.fn, pos := g.frame.place, act := .go gs.size }, { g := gs.size, fn := child.frame.fn, pos := g.frame.place, act := .start }]) ((gs.setIfInBounds 0 a').push child) q := by
          have hel : ∀ m, m ≠ 0 → m ≠ gs.size → Deaf (t ++ MemOp.ofEvents 0 g.frame.fn g.frame.place es ++ #[{ g := 0, fn := g.frame.fn, pos := g.frame.place, act := .go gs.size }, { g := gs.size, fn := child.frame.fn, pos := g.frame.place, act := .start }]) m = Deaf t m := fun m h1 h2 => by
            rw [Array.append_assoc]
            refine Deaf_else t _ fun op hop => ?_
            rcases Array.mem_append.1 hop with hop | hop
            · rw [hops op hop]; omega
            · simp at hop
              rcases hop with rfl | rfl <;> simp <;> omega
          refine ⟨fun m x hm hmj hx => ?_, fun m hm => ?_⟩
          · rw [hel m (by omega) hmj]
            have hlt : m < gs.size := by
              have := lt_of_get hx
              rw [hsz] at this; omega
            rw [Array.getElem?_push, if_neg (by simp; omega), Array.getElem?_setIfInBounds_ne (by omega)] at hx
            exact hL.old m x hm hx
          · rw [hsz] at hm
            rw [hel m (by omega) (by omega)]
            exact hL.above m (by omega)
        obtain ⟨N, m', u, r1, gs', a'', w'', sl'', q'', rfl, r2, r3, r4, r5, r6, r7⟩ := pipe_run (n0 := gs.size + 1) (by omega : gs.size ≠ 0) hSt _ _ _ (.opn vs a' child _ w' sl' _ s r tm (na + 1) (nb + 1) q hsz g0 gj hO hS hc (.inl ⟨na, rfl, hna⟩) (.inl ⟨nb, rfl, hnb⟩) (by omega) hT)
        refine ⟨N + 1, gs', a'', w'', sl'', MemOp.ofEvents 0 g.frame.fn g.frame.place es ++ #[{ g := 0, fn := g.frame.fn, pos := g.frame.place, act := .go gs.size }, { g := gs.size, fn := child.frame.fn, pos := g.frame.place, act := .start }] ++ u, q'', ?_, r2, r3, r4, ?_, ?_, ?_⟩
        · have e : ((MemOp.ofEvents 0 g.frame.fn g.frame.place es).push { g := 0, fn := g.frame.fn, pos := g.frame.place, act := .go gs.size }).push { g := gs.size, fn := child.frame.fn, pos := g.frame.place, act := .start } = MemOp.ofEvents 0 g.frame.fn g.frame.place es ++ #[{ g := 0, fn := g.frame.fn, pos := g.frame.place, act := .go gs.size }, { g := gs.size, fn := child.frame.fn, pos := g.frame.place, act := .start }] := by
            rw [Array.push_eq_append, Array.push_eq_append, Array.append_assoc]; rfl
          rw [e] at hrunT
          rw [← Array.append_assoc, ← Array.append_assoc, ← r1]
          simp only [runNT, hst, hrunT, Array.append_assoc]
        · rw [← Array.append_assoc, ← Array.append_assoc]; exact r5
        · rw [← Array.append_assoc, ← Array.append_assoc]; exact r6
        · rw [← Array.append_assoc, ← Array.append_assoc]; exact r7
      · obtain ⟨gs', q', ops, hr, hsz, h0', hL', hP', hlt, hops⟩ := leaver_slip (w := w.at d) (sl := sl') hL hpos hi hg h0 hrun hP
        first
        | omega
        | obtain ⟨N, gs'', a'', w'', sl'', u, q'', r1, r2, r3, r4, r5, r6, r7⟩ := ih gs' (w.at d) sl' (t ++ ops) q' (by rw [hsz]; omega) h0' hL' hP' (by rw [Deaf_other t (g := 0) (g' := i) (by omega) _ hops]; exact hd) (fun w₁ h₁ => hF w₁ (atRel_trans _ _ _ ⟨d, rfl⟩ h₁))
          refine ⟨N + 1, gs'', a'', w'', sl'', ops ++ u, q'', ?_, r2.trans (by rw [hsz]), r3, r4, by rw [← Array.append_assoc]; exact r5, by rw [← Array.append_assoc]; exact r6, by rw [← Array.append_assoc]; exact r7⟩
          rw [← Array.append_assoc, ← r1]
          simp only [runNT, hst, hr]
  obtain ⟨N2, gs2, a2, w2, sl2, u2, q2, r1, r2, r3, r4, r5, r6, r7⟩ := fork _ gs1 w1 sl1 (t ++ u1) q1 (Nat.le_refl _) e3 e5 e6 e7 e4
  refine ⟨N1 + N2, gs2, a2, w2, sl2, u1 ++ u2, q2, ?_, by rw [r2, e2], r3, r4, by rw [← Array.append_assoc]; exact r5, by rw [← Array.append_assoc]; exact r6, by rw [← Array.append_assoc]; exact r7⟩
  rw [runNT_add, e1, ← Array.append_assoc, ← r1]
end
end Go.Proofs.Ythpanpedoeghoaa.Lift
set_option linter.unusedVariables false
set_option linter.unusedSimpArgs false
namespace Go.Proofs.Ythpanpedoeghoaa.Lift
open Go.Conc
open Go.ConcN (sumTo upd sumTo_upd upd_ne upd_same)

/-- From record a, in world w, beside whatever leavers and behind whatever trace, goroutine 0 comes to Post. 'H': it hears, and goes on hearing. -/
def CX (P : Program) (H : Prop) (a : Goroutine) (w : World) (Post : Goroutine → World → Prop) : Prop :=
  ∀ (gs : Array Goroutine) (sl : Option (Nat × Nat)) (t : Trace) (q : Nat → Nat), gs[0]? = some a → Leavers P t gs q → Past0 t → (H → Deaf t 0 = 0) →
    ∃ (N : Nat) (gs' : Array Goroutine) (a' : Goroutine) (w' : World) (sl' : Option (Nat × Nat)) (u : Trace) (q' : Nat → Nat),
      runNT P N (crowd gs w sl) t = (.next (crowd gs' w' sl'), t ++ u) ∧ gs'[0]? = some a' ∧ Post a' w' ∧ Leavers P (t ++ u) gs' q' ∧ Past0 (t ++ u) ∧ (H → Deaf (t ++ u) 0 = 0)

section
variable {P : Program} {H : Prop} {Post Q : Goroutine → World → Prop}

theorem CX.done {a : Goroutine} {w : World} (h : Post a w) : CX P H a w Post := fun gs sl t q h0 hL hP hd =>
  ⟨0, gs, a, w, sl, #[], q, by simp [runNT], h0, h, by simpa using hL, by simpa using hP, fun hh => by simpa using hd hh⟩

theorem CX.trans {a : Goroutine} {w : World} (h : CX P H a w Q) (k : ∀ a' w', Q a' w' → CX P H a' w' Post) : CX P H a w Post := fun gs sl t q h0 hL hP hd => by
  obtain ⟨N, gs1, a1, w1, sl1, u, q1, e1, e2, e3, e4, e5, e6⟩ := h gs sl t q h0 hL hP hd
  obtain ⟨N', gs2, a2, w2, sl2, u2, q2, r1, r2, r3, r4, r5, r6⟩ := k a1 w1 e3 gs1 sl1 (t ++ u) q1 e2 e4 e5 e6
  refine ⟨N + N', gs2, a2, w2, sl2, u ++ u2, q2, ?_, r2, r3, by rw [← Array.append_assoc]; exact r4, by rw [← Array.append_assoc]; exact r5, fun hh => by rw [← Array.append_assoc]; exact r6 hh⟩
  rw [runNT_add, e1, ← Array.append_assoc, ← r1]

theorem CX.mono {a : Goroutine} {w : World} (h : CX P H a w Q) (k : ∀ a' w', Q a' w' → Post a' w') : CX P H a w Post := h.trans fun a' w' hq => .done (k a' w' hq)

/-- Goroutine 0 takes a step; leavers may slip ahead of it. -/
theorem CX.step {a : Goroutine} {w : World} (hrun : a.status = .running) (h : ∀ d, ∃ a' w' es, stepG P true a (w.at d) = .go a' w' es ∧ (H → ∀ e ∈ es, e.loc ≠ .mark .disable) ∧ CX P H a' w' Post) : CX P H a w Post := by
  have main : ∀ (M : Nat) (w : World), (∀ d, ∃ a' w' es, stepG P true a (w.at d) = .go a' w' es ∧ (H → ∀ e ∈ es, e.loc ≠ .mark .disable) ∧ CX P H a' w' Post) → ∀ (gs : Array Goroutine) (sl : Option (Nat × Nat)) (t : Trace) (q : Nat → Nat), sumTo gs.size q ≤ M → gs[0]? = some a → Leavers P t gs q → Past0 t → (H → Deaf t 0 = 0) →
      ∃ (N : Nat) (gs' : Array Goroutine) (a' : Goroutine) (w' : World) (sl' : Option (Nat × Nat)) (u : Trace) (q' : Nat → Nat),
        runNT P N (crowd gs w sl) t = (.next (crowd gs' w' sl'), t ++ u) ∧ gs'[0]? = some a' ∧ Post a' w' ∧ Leavers P (t ++ u) gs' q' ∧ Past0 (t ++ u) ∧ (H → Deaf (t ++ u) 0 = 0) := by
    intro M
    induction M with
    | zero => ?_
    | succ M ih => ?_
    all_goals
      intro w h gs sl t q hM h0 hL hP hd
      obtain ⟨i, g, d, sl', hi, hg, hst⟩ := crowd_pick (P := P) (w := w) (sl := sl) (crowd_awake hL h0 hrun) ⟨0, a, h0, hrun⟩
      rcases Nat.eq_zero_or_pos i with rfl | hpos
      · obtain rfl : g = a := by rw [h0] at hi; exact (Option.some.inj hi).symm
        obtain ⟨a', w', es, hgo, hes, hk⟩ := h d
        have hrunT := runT_crowd_go (P := P) (w := w.at d) (sl := sl') (i := 0) h0 (show stepG P (0 == 0) g (w.at d) = _ from hgo)
        have hops : ∀ op ∈ MemOp.ofEvents 0 g.frame.fn g.frame.place es, op.g = 0 := fun op hop => by obtain ⟨e, _, rfl⟩ := Go.Conc.mem_ofEvents hop; rfl
        obtain ⟨N, gs', a'', w'', sl'', u, q', e1, e2, e3, e4, e5, e6⟩ := hk ((gs.map (woken P g a' w')).setIfInBounds 0 a') sl' _ q (get_woken_self h0) (leavers_own hL h0 hops) (hP.own _ _ _) (fun hh => by rw [Deaf_own, hd hh]; exact deafBehind_zero (hes hh))
        refine ⟨N + 1, gs', a'', w'', sl'', _ ++ u, q', ?_, e2, e3, by rw [← Array.append_assoc]; exact e4, by rw [← Array.append_assoc]; exact e5, fun hh => by rw [← Array.append_assoc]; exact e6 hh⟩
        rw [← Array.append_assoc, ← e1]
        simp only [runNT, hst, hrunT]
      · obtain ⟨gs', q', ops, hr, hsz, h0', hL', hP', hlt, hops⟩ := leaver_slip (w := w.at d) (sl := sl') hL hpos hi hg h0 hrun hP
        first
        | omega
        | obtain ⟨N, gs'', a'', w'', sl'', u, q'', e1, e2, e3, e4, e5, e6⟩ := ih (w.at d) (fun d' => h d') gs' sl' (t ++ ops) q' (by rw [hsz]; omega) h0' hL' hP' (fun hh => by rw [Deaf_other t (g := 0) (g' := i) (by omega) _ hops]; exact hd hh)
          refine ⟨N + 1, gs'', a'', w'', sl'', ops ++ u, q'', ?_, e2, e3, by rw [← Array.append_assoc]; exact e4, by rw [← Array.append_assoc]; exact e5, fun hh => by rw [← Array.append_assoc]; exact e6 hh⟩
          rw [← Array.append_assoc, ← e1]
          simp only [runNT, hst, hr]
  exact fun gs sl t q => main _ w h gs sl t q (Nat.le_refl _)

/-- A walk ('Goes'). -/
theorem CX.goes {D : World → World → Array Event → Prop} {Stop : Goroutine → World → Prop} (hD : H → ∀ w w' es, D w w' es → ∀ e ∈ es, e.loc ≠ .mark .disable) (k : ∀ a' w', (∀ w₁, AtRel w' w₁ → Stop a' w₁) → CX P H a' w' Post) :
    ∀ (n : Nat) {a : Goroutine} {w : World}, Goes P true AtRel D Stop n a w → CX P H a w Post
  | 0, a, w, hG => k a w hG
  | n + 1, a, w, hG => by
    rcases hG with hstop | ⟨hrun, hstep⟩
    · exact k a w hstop
    · refine CX.step hrun fun d => ?_
      obtain ⟨a', w', es, hgo, hd', hG'⟩ := goes_elim (hstep (w.at d) ⟨d, rfl⟩)
      exact ⟨a', w', es, hgo, fun hh => hD hh _ _ _ hd', CX.goes hD k n hG'⟩

/-- The phase. -/
theorem CX.phase {D : World → World → Array Event → Prop} {Fin : Goroutine → World → Prop} (hD : ∀ w w' es, D w w' es → ∀ e ∈ es, e.loc ≠ .mark .disable) {n : Nat} {a : Goroutine} {w : World} (hG : Goes P true AtRel D (AtFork P Fin) n a w) : CX P True a w Fin := fun gs sl t q h0 hL hP hd => by
  obtain ⟨N, gs', a', w', sl', u, q', e1, _, e3, e4, e5, e6, e7⟩ := pipe_phase (sl := sl) hD h0 hL hP (hd trivial) hG
  exact ⟨N, gs', a', w', sl', u, q', e1, e3, e4, e5, e6, fun _ => e7⟩
theorem CX.deaf {a : Goroutine} {w : World} (h : CX P False a w Post) : ∀ (gs : Array Goroutine) (sl : Option (Nat × Nat)) (t : Trace) (q : Nat → Nat), gs[0]? = some a → Leavers P t gs q → Past0 t →
    ∃ (N : Nat) (gs' : Array Goroutine) (a' : Goroutine) (w' : World) (sl' : Option (Nat × Nat)) (u : Trace) (q' : Nat → Nat),
      runNT P N (crowd gs w sl) t = (.next (crowd gs' w' sl'), t ++ u) ∧ gs'[0]? = some a' ∧ Post a' w' ∧ Leavers P (t ++ u) gs' q' ∧ Past0 (t ++ u) := fun gs sl t q h0 hL hP => by
  obtain ⟨N, gs', a', w', sl', u, q', e1, e2, e3, e4, e5, _⟩ := h gs sl t q h0 hL hP False.elim
  exact ⟨N, gs', a', w', sl', u, q', e1, e2, e3, e4, e5⟩

variable {Z : Zone} {plain : Op → Bool} {ok : Mark → Prop}

/-- What stands at its return stays so, whatever is drawn. -/
theorem leaving_tw (hP : Tight P Z plain ok) {fr : Frame} {w : World} {v : Value} (hf : Z.base fr.fn = true) (h : fr.leaving P w (.returned v)) (T : Nat → Question → Nat) (d : Nat) : fr.leaving P (tw w T d) (.returned v) := by
  obtain ⟨h1, h2, h3, fn, hfn, hr⟩ := h
  obtain ⟨fn', hfn', hm⟩ := hP.there fr.fn hf
  rw [hfn] at hfn'
  obtain rfl := Option.some.inj hfn'
  obtain ⟨k, r1, r2, r3, _⟩ := runT_loc _ (hm fr.tmps) w #[]
  have e0 : ((results fn fr.tmps).runT P w #[]).1 = .ok v w := by rw [Sem.runT_fst]; exact hr
  rw [e0] at r1
  have hk : k = 0 := by simp only [Result.world] at r1; omega
  subst hk
  refine ⟨h1, h2, h3, fn, hfn, ?_⟩
  have := r3 T d (fun i hi => absurd hi (Nat.not_lt_zero _))
  rw [← Sem.runT_fst P _ _ #[], this, e0]
  rfl

/-- A contract of a function of the zone's: its frame comes to its return. -/
theorem bar_of_calls (hP : Tight P Z plain ok) {f : FuncId} {args : Array Value} {w : World} {R : Value → World → Prop} (hf : Z.fn f = true) (hE : FrameOk Z plain (Frame.enter P f args .normal)) (hR : ∀ v w T d, R v w → R v (tw w T d))
    (h : ∀ T d, Calls P f args (tw w T d) fun e w' => ∃ v, e = .returned v ∧ R v w') :
    Bar P ok (fun fr w' => ∃ v, fr.fn = f ∧ fr.leaving P w' (.returned v) ∧ R v w') (Frame.enter P f args .normal) [] w := by
  refine bar_of_always hP (fun fr w T d => ?_) ⟨fun x hx => by simp at hx; subst hx; exact hE, rfl⟩ fun T d => ?_
  · rintro ⟨v, h1, h2, h3⟩
    exact ⟨v, h1, leaving_tw hP (h1 ▸ (hP.body f hf).1) h2 T d, hR v w T d h3⟩
  · obtain ⟨e, w', fr, ⟨v, rfl, hv⟩, ⟨n, hn⟩, h1, h2⟩ := h T d [trap P]
    have := path_of_run (P := P) (Z := Z) (plain := plain) (ok := ok) hP n (fr := Frame.enter P f args .normal) (fr' := fr) (fs := []) (w := tw w T d) (w' := w') ⟨fun x hx => by simp at hx; subst hx; exact hE, rfl⟩ (by simpa [solo_lone] using hn)
    exact ⟨fr, w', this, v, h1, h2, hv⟩

/-- A call: into the function, to its return, and back. -/
theorem CX.calls (hP : Tight P Z plain ok) (hok : H → ∀ m, ok m → m ≠ .disable) {b : Frame} {a : Act} {k : List Item} {cs : List Frame} {w : World} {ops : Array Oper} {i : Nat} {rest : List Nat} {o : Oper} {f : FuncId} {args : Array Value} {R : Value → World → Prop}
    (ho : ops[i]? = some o) (hw : Region.wanted o (yielded ops a.tmps) = true) (hk : b.kind ≠ .early)
    (hr : ∀ w, (execOp a.eval o).run P w = .ok (.enter f args) w) (hev : ∀ w, H → ∀ e ∈ listed P b.fn a o w, e.loc ≠ .mark .disable)
    (hf : Z.fn f = true) (hE : FrameOk Z plain (Frame.enter P f args .normal)) (hR : ∀ v w T d, R v w → R v (tw w T d))
    (h : ∀ T d, Calls P f args (tw w T d) fun e w' => ∃ v, e = .returned v ∧ R v w')
    (hgo : ∀ v w', R v w' → CX P H (G (b.at (a.put o.dst v) (.inRegion ops rest :: k)) cs) w' Post) : CX P H (G (b.at a (.inRegion ops (i :: rest) :: k)) cs) w Post := by
  have hk' : (b.kind == CallKind.early) = false := by simpa using hk
  refine CX.step rfl fun d => ⟨G (Frame.enter P f args .normal) (b.at a (.inRegion ops (i :: rest) :: k) :: cs), w.at d, listed P b.fn a o (w.at d), ?_, hev _, ?_⟩
  · rw [stepG_oper ho hw]
    simp [stepG.apply, hr, G, Frame.at, hk', GStep.after, listed]
  · have hB := bar_of_calls hP hf hE hR h
    -- to the return
    have c1 : CX P H (G (Frame.enter P f args .normal) (b.at a (.inRegion ops (i :: rest) :: k) :: cs)) (w.at d) fun g w' => ∃ fr v, g = G fr (b.at a (.inRegion ops (i :: rest) :: k) :: cs) ∧ fr.fn = f ∧ fr.leaving P w' (.returned v) ∧ R v w' := by
      intro gs sl t q h0 hL hPt hd
      obtain ⟨N, gs', fr', w', sl', u, q', e1, _, e3, ⟨v, e4, e5, e6⟩, e7, e8, e9⟩ := crowd_bar hB (w.at d) ⟨w.tape, d, rfl, fun fr' ⟨v, h1, h2, h3⟩ => ⟨v, h1, leaving_tw hP (h1 ▸ (hP.body f hf).1) h2 _ _, hR _ _ _ _ h3⟩⟩ gs sl t q (b.at a (.inRegion ops (i :: rest) :: k) :: cs) h0 hL hPt
      exact ⟨N, gs', _, w', sl', u, q', e1, e3, ⟨fr', v, rfl, e4, e5, e6⟩, e7, e8, fun hh => e9 (hok hh) (hd hh)⟩
    refine c1.trans ?_
    rintro g w' ⟨fr, v, rfl, hfr, hlv, hv⟩
    -- and back
    refine CX.step rfl fun d' => ?_
    obtain ⟨l1, l2, l3, fn, hfn, hres⟩ := leaving_tw hP (hfr ▸ (hP.body f hf).1) hlv w'.tape d'
    obtain ⟨fn', hfn', hm⟩ := hP.there fr.fn (hfr ▸ (hP.body f hf).1)
    rw [hfn] at hfn'
    obtain rfl := Option.some.inj hfn'
    obtain ⟨k1, r1, r2, r3, r4, _⟩ := runT_loc _ (hm fr.tmps) (w'.at d') #[]
    have e0 : ((results fn fr.tmps).runT P (w'.at d') #[]).1 = .ok v (w'.at d') := by rw [Sem.runT_fst]; exact hres
    refine ⟨G ((b.at a (.inRegion ops (i :: rest) :: k)).finish v) cs, w'.at d', seen P fr.fn ((results fn fr.tmps).runT P (w'.at d') #[]).2, ?_, fun hh e he => ?_, ?_⟩
    · have hu := own_unwind (P := P) (fr := fr) (fs := []) (by rw [l1]; simp) (w'.at d') (b.at a (.inRegion ops (i :: rest) :: k) :: cs)
      simp only [own, List.nil_append] at hu
      rw [hu]
      unfold unwind
      simp only [l2, l1, hfn]
      generalize hq : (results fn fr.tmps).runT P (w'.at d') #[] = q at e0
      obtain ⟨q, es⟩ := q
      simp only at e0
      subst e0
      simp only [doReturn, l3, GStep.after, G, Array.append_empty]
    · have := seen_sub P fr.fn _ e he
      rcases r4 e this with h' | h'
      · simp at h'
      · exact fun hl => hok hh _ (h' _ hl) rfl
    · have : (b.at a (.inRegion ops (i :: rest) :: k)).finish v = b.at (a.put o.dst v) (.inRegion ops rest :: k) := by rw [Frame.finish_at, ho]; rfl
      rw [this]
      exact hgo v (w'.at d') (hR v w' w'.tape d' hv)

/-- The rest of a function's body, by its lone walk. -/
theorem CX.tail (hP : Tight P Z plain ok) (hok : H → ∀ m, ok m → m ≠ .disable) {b : Frame} {a : Act} {cs : List Frame} {w : World} {c : Code} {fn : Func} {R : Value → World → Prop}
    (hS : FrameOk Z plain (b.at a [.code c])) (hb : b.kind = .normal) (hfn : P.funcs[b.fn]? = some fn) (hR : ∀ v w T d, R v w → R v (tw w T d))
    (h : ∀ T d, c.wp P (bodyPost P fn fun e w' => ∃ v, e = .returned v ∧ R v w') a (tw w T d)) :
    CX P H (G (b.at a [.code c]) cs) w fun g w' => ∃ fr v, g = G fr cs ∧ fr.fn = b.fn ∧ fr.leaving P w' (.returned v) ∧ R v w' := by
  have hbase : Z.base b.fn = true := hS.fn
  have hSt : StackOk Z plain (b.at a [.code c]) [] := ⟨fun x hx => by simp at hx; subst hx; exact hS, hb⟩
  have hB : Bar P ok (fun fr w' => ∃ v, fr.fn = b.fn ∧ fr.leaving P w' (.returned v) ∧ R v w') (b.at a [.code c]) [] w := by
    refine bar_of_always hP (fun fr w T d => ?_) hSt fun T d => ?_
    · rintro ⟨v, h1, h2, h3⟩
      exact ⟨v, h1, leaving_tw hP (h1 ▸ hbase) h2 T d, hR v w T d h3⟩
    · obtain ⟨e, a', w', hq, harr⟩ := h T d b [] [trap P]
      have fin : ∀ (fr : Frame) (v : Value), Steps P (lone (b.at a [.code c]) [trap P] (tw w T d)) (lone fr [trap P] w') → fr.fn = b.fn → fr.leaving P w' (.returned v) → R v w' → ∃ fr' w'', SPath P (b.at a [.code c]) [] (tw w T d) fr' [] w'' ∧ ∃ v, fr'.fn = b.fn ∧ fr'.leaving P w'' (.returned v) ∧ R v w'' := by
        rintro fr v ⟨n, hn⟩ e1 e2 e3
        exact ⟨fr, w', path_of_run (ok := ok) hP n (fr := b.at a [.code c]) (fr' := fr) (fs := []) hSt (by simpa [solo_lone] using hn), v, e1, e2, e3⟩
      cases e with
      | normal =>
        obtain ⟨hd, v, hr, v', hv', hRv⟩ := hq
        cases hv'
        exact fin { b.at a' [] with mode := .returning } v (Steps.trans harr (.one step_end)) rfl ⟨rfl, hd, hb, fn, hfn, hr⟩ hRv
      | ret =>
        obtain ⟨hd, v, hr, v', hv', hRv⟩ := hq
        cases hv'
        obtain ⟨todo, hs⟩ := harr
        exact fin _ v hs rfl ⟨rfl, hd, hb, fn, hfn, hr⟩ hRv
      | panic chain => obtain ⟨_, v, hv, _⟩ := hq; cases hv
      | exit id => exact hq.elim
      | goto l => exact hq.elim
      | outgrown => obtain ⟨v, hv, _⟩ := hq; cases hv
  intro gs sl t q h0 hL hPt hd
  obtain ⟨N, gs', fr', w', sl', u, q', e1, _, e3, ⟨v, e4, e5, e6⟩, e7, e8, e9⟩ := crowd_bar hB w ⟨w.tape, w.drawn, (tw_self w).symm, fun fr' x => x⟩ gs sl t q cs h0 hL hPt
  exact ⟨N, gs', _, w', sl', u, q', e1, e3, ⟨fr', v, rfl, e4, e5, e6⟩, e7, e8, fun hh => e9 (hok hh) (hd hh)⟩
end
end Go.Proofs.Ythpanpedoeghoaa.Lift
set_option linter.unusedVariables false
set_option linter.unusedSimpArgs false
namespace Go.Proofs.Ythpanpedoeghoaa.Lift
open Go.Conc
open Go.ConcN (sumTo upd sumTo_upd upd_ne upd_same)

section
variable {P : Program} {Post : Value → World → Prop}

/-- Goroutine 0 stands at its return, and nobody waits for it. -/
def AtRet (P : Program) (Post : Value → World → Prop) (g : Goroutine) (w : World) : Prop :=
  ∃ fr v, g = G fr [] ∧ P.inits.idxOf? fr.fn = none ∧ ∀ d, fr.leaving P (w.at d) (.returned v) ∧ Post v (w.at d)

theorem ret_ends {fr : Frame} {w : World} {v : Value} (hi : P.inits.idxOf? fr.fn = none) (h : fr.leaving P w (.returned v)) : ∃ es, stepG P true (G fr []) w = .ended (.done v) w es := by
  obtain ⟨l1, l2, l3, fn, hfn, hres⟩ := h
  have hu := own_unwind (P := P) (fr := fr) (fs := []) (by rw [l1]; simp) w []
  simp only [own, List.nil_append] at hu
  rw [hu]
  unfold unwind
  simp only [l2, l1, hfn]
  have e0 : ((results fn fr.tmps).runT P w #[]).1 = .ok v w := by rw [Sem.runT_fst]; exact hres
  generalize hq : (results fn fr.tmps).runT P w #[] = q at e0
  obtain ⟨q, es⟩ := q
  simp only at e0
  subst e0
  refine ⟨seen P fr.fn es ++ #[], ?_⟩
  simp only [doReturn, l3, GStep.after, hi]
  rfl

theorem crowd_ret {g : Goroutine} {w : World} (h : AtRet P Post g w) : ∀ (M : Nat) (gs : Array Goroutine) (w : World) (sl : Option (Nat × Nat)) (t : Trace) (q : Nat → Nat), AtRet P Post g w → sumTo gs.size q ≤ M → gs[0]? = some g → Leavers P t gs q → Past0 t →
    ∃ N last o w' t', runNT P (N + 1) (crowd gs w sl) t = (.ended o w', t') ∧ runN P N (crowd gs w sl) = .next last ∧ step P last = .ended o w' ∧ Good P Post last o w' t' := by
  intro M
  induction M with
  | zero => ?_
  | succ M ih => ?_
  all_goals
    intro gs w sl t q hA hM h0 hL hP
    have hrun : g.status = .running := by obtain ⟨fr, v, rfl, _⟩ := hA; rfl
    obtain ⟨i, g', d, sl', hi, hg, hst⟩ := crowd_pick (P := P) (w := w) (sl := sl) (crowd_awake hL h0 hrun) ⟨0, g, h0, hrun⟩
    rcases Nat.eq_zero_or_pos i with rfl | hpos
    · obtain rfl : g' = g := by rw [h0] at hi; exact (Option.some.inj hi).symm
      obtain ⟨fr, v, rfl, hin, hl⟩ := hA
      obtain ⟨es, hend⟩ := ret_ends hin (hl d).1
      have hrunT := runT_many_ended (P := P) (sl := sl') (i := 0) h0 (show stepG P (0 == 0) (G fr []) (w.at d) = _ from hend)
      have hops : ∀ op ∈ MemOp.ofEvents 0 (G fr []).frame.fn (G fr []).frame.place es, op.g = 0 := fun op hop => by obtain ⟨e, _, rfl⟩ := Go.Conc.mem_ofEvents hop; rfl
      have hP' := hP.own (G fr []).frame.fn (G fr []).frame.place es
      refine ⟨0, crowd gs w sl, .done v, w.at d, t ++ MemOp.ofEvents 0 (G fr []).frame.fn (G fr []).frame.place es, by simp [runNT, hst, hrunT], rfl, by simp [step, hst, hrunT], v, rfl, (hl d).2, hP'.clean, hP'.over, ⟨fun x hx => ?_, rfl⟩, fun j x hx hj => ?_⟩
      · obtain ⟨j, hj⟩ := List.mem_iff_getElem?.1 hx
        rw [List.getElem?_drop] at hj
        exact ⟨_, (hL.old (1 + j) x (by omega) (by simpa [crowd] using hj)).leaves⟩
      · have hq := hL.old j x (by omega) hx
        refine ⟨q j, ?_⟩
        have e : (t ++ MemOp.ofEvents 0 (G fr []).frame.fn (G fr []).frame.place es).deaf j (t ++ MemOp.ofEvents 0 (G fr []).frame.fn (G fr []).frame.place es).size = Deaf t j :=
          Deaf_else t _ fun op hop => by rw [hops op hop]; omega
        rw [e]
        exact hq.hears _
    · obtain ⟨gs', q', ops, hr, hsz, h0', hL', hP', hlt, hops⟩ := leaver_slip (w := w.at d) (sl := sl') hL hpos hi hg h0 hrun hP
      first
      | omega
      | obtain ⟨N, last, o, w', t', e1, e2, e3, e4⟩ := ih gs' (w.at d) sl' (t ++ ops) q' (by obtain ⟨fr, v, a, b, c⟩ := hA; exact ⟨fr, v, a, b, fun d' => c d'⟩) (by rw [hsz]; omega) h0' hL' hP'
        refine ⟨N + 1, last, o, w', t', ?_, ?_, e3, e4⟩
        · rw [show N + 1 + 1 = (N + 1) + 1 from rfl, runNT_succ_next (hst.trans hr)]; exact e1
        · rw [runN_succ_next (hst.trans hr)]; exact e2

/-- ████ THE RUN. ████ -/
theorem run_of_cx {a : Goroutine} {w : World} (h : CX P True a w (AtRet P Post)) :
    ∃ N last o w' t', runNT P (N + 1) (solo a w) #[] = (.ended o w', t') ∧ runN P N (solo a w) = .next last ∧ step P last = .ended o w' ∧ Good P Post last o w' t' := by
  have hP0 : Past0 (#[] : Trace) := ⟨past_nil.clean, fun i a ha => by simp [touchAt, Trace.act?] at ha, past_nil.over⟩
  obtain ⟨N, gs', a', w', sl', u, q', e1, e2, e3, e4, e5, _⟩ := h #[a] none #[] (fun _ => 0) rfl (leavers_one P a) hP0 (fun _ => rfl)
  obtain ⟨N2, last, o, w'', t', r1, r2, r3, r4⟩ := crowd_ret e3 _ gs' w' sl' _ q' e3 (Nat.le_refl _) e2 e4 e5
  rw [← solo_eq_crowd] at e1
  refine ⟨N + N2, last, o, w'', t', ?_, ?_, r3, r4⟩
  · rw [show N + N2 + 1 = N + (N2 + 1) by omega, runNT_add, e1]; exact r1
  · rw [runN_add, ← runNT_fst P N _ #[], e1]; exact r2
end
end Go.Proofs.Ythpanpedoeghoaa.Lift
namespace Go.Proofs.Ythpanpedoeghoaa.Lift
open Go.Conc
/-- .. hearing up to where the last goroutine is joined. -/
theorem run_of_cx2 {P : Program} {Post : Value → World → Prop} {Q : Goroutine → World → Prop} {a : Goroutine} {w : World} (h : CX P True a w Q) (k : ∀ a' w', Q a' w' → CX P False a' w' (AtRet P Post)) :
    ∃ N last o w' t', runNT P (N + 1) (solo a w) #[] = (.ended o w', t') ∧ runN P N (solo a w) = .next last ∧ Go.step P last = .ended o w' ∧ Good P Post last o w' t' := by
  have hP0 : Past0 (#[] : Trace) := ⟨past_nil.clean, fun i a ha => by simp [touchAt, Trace.act?] at ha, past_nil.over⟩
  obtain ⟨N0, gs0, a0, w0, sl0, u0, q0, f1, f2, f3, f4, f5, _⟩ := h #[a] none #[] (fun _ => 0) rfl (leavers_one P a) hP0 (fun _ => rfl)
  obtain ⟨N, gs', a', w', sl', u, q', e1, e2, e3, e4, e5⟩ := (k a0 w0 f3).deaf gs0 sl0 _ q0 f2 f4 f5
  obtain ⟨N2, last, o, w'', t', r1, r2, r3, r4⟩ := crowd_ret e3 _ gs' w' sl' _ q' e3 (Nat.le_refl _) e2 e4 e5
  rw [← solo_eq_crowd] at f1
  have g1 : runNT P (N0 + N) (solo a w) #[] = (.next (crowd gs' w' sl'), #[] ++ u0 ++ u) := by rw [runNT_add, f1]; exact e1
  refine ⟨N0 + N + N2, last, o, w'', t', ?_, ?_, r3, r4⟩
  · rw [show N0 + N + N2 + 1 = (N0 + N) + (N2 + 1) by omega, runNT_add, g1]; exact r1
  · rw [runN_add, ← runNT_fst P (N0 + N) _ #[], g1]; exact r2
end Go.Proofs.Ythpanpedoeghoaa.Lift
set_option linter.unusedVariables false
set_option linter.unusedSimpArgs false
namespace Go.Proofs.Ythpanpedoeghoaa.Lift
open Go.Conc

section
variable {P : Program} {c : Nat} {S : World → Prop} {Mine : Loc → Prop} {b : Frame} {a : Act} {k : List Item} {cs : List Frame}

/-- The deferred call of the built-in close. -/
def dclose (ats : Array TypeId) (ty : TypeId) (consts : Array Bool) (c : Nat) : Deferred := { target := .builtin .close ats ty consts, args := #[.chan (some c)] }

theorem atClose_deferred {n : Nat} {ats : Array TypeId} {ty : TypeId} {consts : Array Bool} {ds : List Deferred} (hd : a.defers = dclose ats ty consts c :: ds)
    (hl : (P.funcs[b.fn]?).any (·.norace) = false) (hM : ¬ Mine (.obj c))
    (hq : QuitsIn P n (G { b.at ⟨a.tmps, ds⟩ k with mode := .returning } cs)) :
    AtClose P c S Mine (G { b.at a k with mode := .returning } cs) := by
  refine ⟨rfl, rfl, G { b.at ⟨a.tmps, ds⟩ k with mode := .returning } cs, #[⟨.obj c, false, true⟩], n, fun w s r tm _ hc => ?_, ?_, hq⟩
  · have h1 := run_close_open (P := P) ats ty hc
    have h2 := events_close_open (P := P) (es := #[]) ats ty hc
    have hr : (invoke (.builtin .close ats ty consts) #[.chan (some c)]).run P w = .ok (.value (.tuple #[])) (w.shut c s r tm) := by
      simp only [invoke, builtin, Sem.run_bind, h1, Result.andThen_ok, Sem.run_pure]
      rfl
    have he : (invoke (.builtin .close ats ty consts) #[.chan (some c)]).events P w #[] = #[⟨.obj c, false, true⟩, ⟨.obj c, true, true⟩] := by
      simp only [invoke, builtin, Sem.events_bind, h1, h2, Result.evThen_ok, Sem.events_pure]
      rfl
    have hs : seen P b.fn #[⟨.obj c, false, true⟩, ⟨.obj c, true, true⟩] = #[⟨.obj c, false, true⟩, ⟨.obj c, true, true⟩] := seen_eq hl (by simp)
    simp [G, stepG, unwind, callDeferred, Frame.at, hd, dclose, hr, he, GStep.after]
    exact hs
  · intro e he'
    simp at he'
    subst he'
    exact ⟨fun m => by simp, rfl, hM⟩
/-- The operation: a call is laid by. -/
theorem stepG_defer_by {main : Bool} {w : World} {ops : Array Oper} {i : Nat} {rest : List Nat} {o : Oper} {d : Deferred} (ho : ops[i]? = some o) (hw : Region.wanted o (yielded ops a.tmps) = true) (hk : b.kind ≠ .early)
    (hr : (execOp a.eval o).run P w = .ok (.defer d) w) (he : (execOp a.eval o).events P w #[] = #[]) :
    stepG P main (G (b.at a (.inRegion ops (i :: rest) :: k)) cs) w = .go (G (b.at (Act.put ⟨a.tmps, d :: a.defers⟩ o.dst undef) (.inRegion ops rest :: k)) cs) w #[] := by
  have hfin : (b.at ⟨a.tmps, d :: a.defers⟩ (.inRegion ops (i :: rest) :: k)).finish undef = b.at (Act.put ⟨a.tmps, d :: a.defers⟩ o.dst undef) (.inRegion ops rest :: k) := by rw [Frame.finish_at, ho]; rfl
  have hk' : (b.kind == CallKind.early) = false := by simpa using hk
  rw [stepG_oper ho hw, ← hfin]
  simp [stepG.apply, hr, he, G, Frame.at, hk', GStep.after, seen_none]
end
end Go.Proofs.Ythpanpedoeghoaa.Lift
