/- FnBuckets: BucketsOf, from its entry to where it has found the channel closed. -/
import Derived.Test.YthpanpedoeghoaaBkA
import Derived.Test.YthpanpedoeghoaaBkB
import Derived.Test.YthpanpedoeghoaaLiftT
import Derived.Test.YthpanpedoeghoaaBktM
import Derived.Test.YthpanpedoeghoaaBktL
set_option linter.unusedVariables false
set_option linter.unusedSimpArgs false
set_option linter.unnecessarySimpa false
namespace Go.Proofs.Ythpanpedoeghoaa
open Go.Conc Go.RowKit Go.Proofs.Ythpanpedoeghoaa.Lift
set_option linter.unusedVariables false
set_option linter.unusedSimpArgs false
theorem Lift.CX.one {P : Program} {H : Prop} {Post : Goroutine → World → Prop} {a : Goroutine} {w : World} (hrun : a.status = .running) (h : ∀ w₁, AtRel w w₁ → (stepG P true a w₁).goes fun g' w' es => (∀ e ∈ es, e.loc ≠ .mark .disable) ∧ CX P H g' w' Post) : CX P H a w Post :=
  CX.step hrun fun d => by
    obtain ⟨g', w', es, e, hd, hk⟩ := goes_elim (h (w.at d) ⟨d, rfl⟩)
    exact ⟨g', w', es, e, fun _ => hd, hk⟩
/-- The camera lies in a block of the call's own; what was there ahead of it is as it was. -/
structure PQ (w0 : World) (B : Nat) (cs : List Value) (w : World) : Prop where
  hb : HB w0.heap.size w0 w
  box : Own w B 24 cs
  ge : w0.heap.size ≤ B
theorem PQ.rel {w0 w w₁ : World} {B : Nat} {cs : List Value} (h : PQ w0 B cs w) (hr : AtRel w w₁) : PQ w0 B cs w₁ := by obtain ⟨d, rfl⟩ := hr; exact ⟨h.hb.at d, h.box, h.ge⟩
theorem PQ.step {w0 w w₁ : World} {B : Nat} {cs : List Value} (h : PQ w0 B cs w) (hr : HB w.heap.size w w₁) : PQ w0 B cs w₁ := ⟨h.hb.trans hr h.hb.size, (hr.block B h.box.lt).trans h.box, h.ge⟩
attribute [go_sem] Instr.makeChan
@[go_sem] theorem run_makeFunc' (P : Program) (fn : Fn) (first cap : Array Value) (w : World) : (Instr.makeFunc fn first cap).run P w = .ok (.func fn first cap) w := rfl
@[go_sem] theorem events_makeFunc' (P : Program) (fn : Fn) (first cap : Array Value) (w : World) (es : Array Event) : (Instr.makeFunc fn first cap).events P w es = es := rfl
/-- The blocks made since W. -/
structure PG (W : World) (objs : List Obj) (w : World) : Prop where
  below : Below W.heap.size W w
  size : w.heap.size = W.heap.size + objs.length
  at_ : ∀ k (h : k < objs.length), w.heap[W.heap.size + k]? = some objs[k]
theorem PG.nil (W : World) : PG W [] W := ⟨Below.refl _ _, rfl, fun k h => by simp at h⟩
theorem PG.rel {W w w₁ : World} {objs : List Obj} (h : PG W objs w) (hr : AtRel w w₁) : PG W objs w₁ := by obtain ⟨d, rfl⟩ := hr; exact ⟨⟨h.below.os, h.below.tape, h.below.output, h.below.size, h.below.block⟩, h.size, h.at_⟩
theorem PG.alloc {W w : World} {objs : List Obj} (h : PG W objs w) (o : Obj) : PG W (objs ++ [o]) (w.alloc o) := by
  refine ⟨h.below.alloc (by rw [h.size]; omega) o, by simp [h.size]; omega, fun k hk => ?_⟩
  simp only [List.length_append, List.length_cons, List.length_nil] at hk
  rcases Nat.lt_or_ge k objs.length with hlt | hge
  · rw [Below.heap_alloc _ _ _ (by rw [h.size]; omega), h.at_ k hlt, List.getElem_append_left hlt]
  · obtain rfl : k = objs.length := by omega
    have := heap_alloc_new w o
    rw [h.size] at this
    rw [this]
    simp
theorem PG.own {W w : World} {objs : List Obj} (h : PG W objs w) {B : Nat} {t : TypeId} {cs : List Value} (ho : Own W B t cs) : Own w B t cs := (h.below.block B ho.lt).trans ho
/-- What stands at the go statement. -/
structure FK (W : World) (a b s : Nat) (w : World) : Prop where
  below : Below W.heap.size W w
  size : w.heap.size = W.heap.size + 5
  row : Own w W.heap.size 36 []
  sh : Shared (W.heap.size + 1) a b s w
  chn : w.heap[W.heap.size + 3]? = some (.chan 0 #[] false 0 0 false)
theorem FK.rel {W w w₁ : World} {a b s : Nat} (h : FK W a b s w) (hr : AtRel w w₁) : FK W a b s w₁ := by obtain ⟨d, rfl⟩ := hr; exact ⟨⟨h.below.os, h.below.tape, h.below.output, h.below.size, h.below.block⟩, h.size, h.row, ⟨h.sh.cw, h.sh.ch, h.sh.cs, h.sh.cc⟩, h.chn⟩
theorem FK.of {W w : World} {a b s : Nat} {x y u v : Int} {e : Bool} (h : PG W [.cells #[] 36, .cells #[.int .i64 a, .int .i64 b, .int .i64 x, .int .i64 y, .bool e, .int .i64 u, .int .i64 v] 24, .cells #[.int .i64 s] 3, .chan 0 #[] false 0 0 false, .cells #[.chan none] 74] w) :
    FK W a b s (w.setCell ⟨W.heap.size + 4, 0, none⟩ (.chan (some (W.heap.size + 3)))) := by
  have h0 := h.at_ 0 (by simp)
  have h1 := h.at_ 1 (by simp)
  have h2 := h.at_ 2 (by simp)
  have h3 := h.at_ 3 (by simp)
  have h4 := h.at_ 4 (by simp)
  simp only [List.getElem_cons_zero, List.getElem_cons_succ] at h0 h1 h2 h3 h4
  have o1 : Own w (W.heap.size + 1) 24 [.int .i64 a, .int .i64 b, .int .i64 x, .int .i64 y, .bool e, .int .i64 u, .int .i64 v] := h1
  have o2 : Own w (W.heap.size + 2) 3 [.int .i64 s] := h2
  have o4 : Own w (W.heap.size + 4) 74 [.chan none] := h4
  have p1 := o1.far (p := ⟨W.heap.size + 4, 0, none⟩) (by simp) (.chan (some (W.heap.size + 3)))
  have p2 := o2.far (p := ⟨W.heap.size + 4, 0, none⟩) (by simp) (.chan (some (W.heap.size + 3)))
  have p4 := o4.set_ 0 (.chan (some (W.heap.size + 3)))
  refine ⟨h.below.setCell (by simp) _, by simp [h.size], ?_, ⟨p1.cell 0, p1.cell 1, p2.cell 0, p4.cell 0⟩, ?_⟩
  · exact Own.far (show Own w W.heap.size 36 [] from h0) (by simp) _
  · rw [Below.heap_setCell _ _ _ _ (by simp)]; exact h3
section
variable (F3 : Frame)
/-- It stands where it has found the channel closed: the row holds the buckets. -/
def Q5 (w0 : World) (a b s : Nat) (g : Goroutine) (w : World) : Prop :=
  ∃ (A : Option Addr) (c : Nat) (T : Array Value) (M : Nat) (W : World), g = atRecv5 F3 T [1] ∧ AtRv M A (bks a b s).length c T ∧ T[19]? = some (.tuple #[vBucket 0 0 0 0, .bool false]) ∧ w0.heap.size ≤ M ∧ HB w0.heap.size w0 W ∧ AF M W A (bks a b s).length c (rB (bks a b s)) w
set_option maxRecDepth 100000 in
set_option maxHeartbeats 2000000 in
theorem f5_fork {a b s : Nat} {x y u v : Int} {e : Bool} (w : World) (ha : 2 ≤ a ∧ a ≤ 5) (hb : 2 ≤ b ∧ b ≤ 5) (hs : 1 ≤ s ∧ s ≤ 5) (hv : validCam a b x y u v = true) :
    CX Try.prog True (G ((base 5).at ⟨#[vCamera a b x y e u v, .int .i64 s] ++ Array.replicate 25 undef, []⟩ [.code body5]) [F3]) w (Q5 F3 w a b s) := by
  simp only [body5, Try.f5, Option.getD_some, Array.replicate_succ, Array.replicate_zero, List.push_toArray, List.append_toArray, List.nil_append, List.cons_append]
  -- the camera's box
  refine CX.one rfl (fun w₁ h₁ => ?_)
  walk_rw
  refine ⟨by simp, ?_⟩
  have hF := (HB.refl w.heap.size w).rel h₁
  clear h₁
  refine CX.one rfl (fun w₂ h₁ => ?_)
  walk_rw
  refine ⟨by simp, ?_⟩
  replace hF := hF.rel h₁
  clear h₁ w₁
  refine CX.one rfl (fun w₁ h₁ => ?_)
  replace hF := hF.rel h₁
  clear h₁ w₂
  refine goes_oper_k rfl rfl (by decide) (fun K hK => ?_)
  go_simp
  refine hK _ _ ⟨fun e he => ?_, ?_⟩
  · have hm := mem_listed he
    simp [go_sem] at hm
  clear hK K
  have hQ : PQ w w₁.heap.size [.int .i64 a, .int .i64 b, .int .i64 x, .int .i64 y, .bool e, .int .i64 u, .int .i64 v] (w₁.alloc (.cells #[.int .i64 a, .int .i64 b, .int .i64 x, .int .i64 y, .bool e, .int .i64 u, .int .i64 v] 24)) :=
    ⟨HB.trans hF (HB.of ((Below.refl _ _).alloc (Nat.le_refl _) _)) hF.size, Own.new _ _ _, hF.size⟩
  generalize w₁.alloc (.cells #[.int .i64 a, .int .i64 b, .int .i64 x, .int .i64 y, .bool e, .int .i64 u, .int .i64 v] 24) = w₂ at hQ ⊢
  generalize w₁.heap.size = B at hQ ⊢
  clear hF w₁
  repeat (first
    | (refine CX.one rfl (fun w₁ h₁ => ?_)
       walk_rw
       refine ⟨by simp, ?_⟩
       replace hQ := PQ.rel hQ h₁
       clear h₁)
    | (refine CX.one rfl (fun w₁ h₁ => ?_)
       replace hQ := PQ.rel hQ h₁
       clear h₁
       refine goes_oper_k rfl rfl (by decide) (fun K hK => ?_)
       have q0 := Own.cell (PQ.box hQ) 0
       have q1 := Own.cell (PQ.box hQ) 1
       have q2 := Own.cell (PQ.box hQ) 2
       have q3 := Own.cell (PQ.box hQ) 3
       have q4 := Own.cell (PQ.box hQ) 4
       have q5 := Own.cell (PQ.box hQ) 5
       have q6 := Own.cell (PQ.box hQ) 6
       simp only [List.getElem?_cons_zero, List.getElem?_cons_succ] at q0 q1 q2 q3 q4 q5 q6
       go_simp
       refine hK _ _ ⟨fun e he => ?_, ?_⟩
       · have hm := mem_listed he
         simp [go_sem, *] at hm
         try (first | (rw [hm]; intro hc; cases hc; done) | (rcases hm with h | h | h | h | h | h | h <;> (rw [h]; intro hc; cases hc)))
       clear hK K q0 q1 q2 q3 q4 q5 q6))
  -- is the camera valid?
  refine CX.callB (fun v => v = .bool true) #[vCamera a b x y e u v] tightZA (fun _ m h => h) rfl rfl (by decide) rfl Try.func14 rfl rfl rfl rfl (by simp [Act.eval]) (fun T d => ?_) ?_
  · with_reducible refine (I_IsValidCamera (a := a) (b := b) (c := x) (d := y) (e := e) (f := u) (g := v) _).mono ?_
    rintro r w' ⟨rfl, h⟩
    exact ⟨_, rfl, by rw [hv], (HB.of h).un⟩
  rintro v' w' rfl h
  replace hQ := PQ.step hQ h
  clear h
  repeat (first
    | (refine CX.one rfl (fun w₁ h₁ => ?_)
       walk_rw
       refine ⟨by simp, ?_⟩
       replace hQ := PQ.rel hQ h₁
       clear h₁)
    | (refine CX.one rfl (fun w₁ h₁ => ?_)
       replace hQ := PQ.rel hQ h₁
       clear h₁
       refine goes_oper_k rfl rfl (by decide) (fun K hK => ?_)
       have q0 := Own.cell (PQ.box hQ) 0
       have q1 := Own.cell (PQ.box hQ) 1
       have q2 := Own.cell (PQ.box hQ) 2
       have q3 := Own.cell (PQ.box hQ) 3
       have q4 := Own.cell (PQ.box hQ) 4
       have q5 := Own.cell (PQ.box hQ) 5
       have q6 := Own.cell (PQ.box hQ) 6
       simp only [List.getElem?_cons_zero, List.getElem?_cons_succ] at q0 q1 q2 q3 q4 q5 q6
       go_simp
       refine hK _ _ ⟨fun e he => ?_, ?_⟩
       · have hm := mem_listed he
         simp [go_sem, *] at hm
         try (first | (rw [hm]; intro hc; cases hc; done) | (rcases hm with h | h | h | h | h | h | h <;> (rw [h]; intro hc; cases hc)))
       clear hK K q0 q1 q2 q3 q4 q5 q6))
  -- is the size?
  have hin : inB (s : Int) 1 12 = true := by unfold inB; simp; omega
  refine CX.callB (fun v => v = .bool true) #[.int .i64 s, .int .i64 1, .int .i64 12] tightZA (fun _ m h => h) rfl rfl (by decide) rfl Try.func15 rfl rfl rfl rfl (by simp [Act.eval]) (fun T d => ?_) ?_
  · with_reducible refine (I_within_is hin _).mono ?_
    rintro r w' ⟨rfl, h⟩
    exact ⟨_, rfl, rfl, by subst h; exact (HB.refl _ _).tw _ _⟩
  rintro v' w' rfl h
  replace hQ := PQ.step hQ h
  clear h
  repeat (first
    | (refine CX.one rfl (fun w₁ h₁ => ?_)
       walk_rw
       refine ⟨by simp, ?_⟩
       replace hQ := PQ.rel hQ h₁
       clear h₁)
    | (refine CX.one rfl (fun w₁ h₁ => ?_)
       replace hQ := PQ.rel hQ h₁
       clear h₁
       refine goes_oper_k rfl rfl (by decide) (fun K hK => ?_)
       have q0 := Own.cell (PQ.box hQ) 0
       have q1 := Own.cell (PQ.box hQ) 1
       have q2 := Own.cell (PQ.box hQ) 2
       have q3 := Own.cell (PQ.box hQ) 3
       have q4 := Own.cell (PQ.box hQ) 4
       have q5 := Own.cell (PQ.box hQ) 5
       have q6 := Own.cell (PQ.box hQ) 6
       simp only [List.getElem?_cons_zero, List.getElem?_cons_succ] at q0 q1 q2 q3 q4 q5 q6
       go_simp
       refine hK _ _ ⟨fun e he => ?_, ?_⟩
       · have hm := mem_listed he
         simp [go_sem, *] at hm
         try (first | (rw [hm]; intro hc; cases hc; done) | (rcases hm with h | h | h | h | h | h | h <;> (rw [h]; intro hc; cases hc)))
       clear hK K q0 q1 q2 q3 q4 q5 q6))
  refine CX.one rfl (fun w₁ h₁ => ?_)
  rw [stepG_cond (t := false) rfl]
  simp only [goes_go, if_true, if_false, Bool.false_eq_true, ↓reduceIte]
  refine ⟨by simp, ?_⟩
  replace hQ := PQ.rel hQ h₁
  clear h₁
  repeat (refine CX.one rfl (fun w₁ h₁ => ?_)
          walk_rw
          refine ⟨by simp, ?_⟩
          replace hQ := PQ.rel hQ h₁
          clear h₁)
  -- the row, empty
  refine CX.one rfl (fun W h₁ => ?_)
  replace hQ := PQ.rel hQ h₁
  clear h₁
  refine goes_oper_k rfl rfl (by decide) (fun K hK => ?_)
  go_simp
  refine hK _ _ ⟨fun e he => ?_, ?_⟩
  · have hm := mem_listed he
    simp [go_sem] at hm
  clear hK K
  have hG := (PG.nil W).alloc (.cells #[] 36)
  have hBx := hQ.box
  generalize W.alloc (.cells #[] 36) = w₂ at hG ⊢
  repeat (first
    | (refine CX.one rfl (fun w₁ h₁ => ?_)
       walk_rw
       refine ⟨by simp, ?_⟩
       replace hG := PG.rel hG h₁
       clear h₁)
    | (refine CX.one rfl (fun w₁ h₁ => ?_)
       replace hG := PG.rel hG h₁
       clear h₁
       refine goes_oper_k rfl rfl (by decide) (fun K hK => ?_)
       have q0 := Own.cell (PG.own hG hBx) 0
       have q1 := Own.cell (PG.own hG hBx) 1
       have q2 := Own.cell (PG.own hG hBx) 2
       have q3 := Own.cell (PG.own hG hBx) 3
       have q4 := Own.cell (PG.own hG hBx) 4
       have q5 := Own.cell (PG.own hG hBx) 5
       have q6 := Own.cell (PG.own hG hBx) 6
       simp only [List.getElem?_cons_zero, List.getElem?_cons_succ] at q0 q1 q2 q3 q4 q5 q6
       go_simp
       refine hK _ _ ⟨fun e he => ?_, ?_⟩
       · have hm := mem_listed he
         simp [go_sem, *] at hm
         try (first | (rw [hm]; intro hc; cases hc; done) | (rcases hm with h | h | h | h | h | h | h <;> (rw [h]; intro hc; cases hc)))
       clear hK K q0 q1 q2 q3 q4 q5 q6))
  -- stream
  refine CX.one rfl (fun w₁ h₁ => ?_)
  replace hG := PG.rel hG h₁
  clear h₁
  rw [stepG_callF rfl rfl (by decide) rfl Try.func16 rfl rfl]
  simp only [goes_go]
  refine ⟨by simp, ?_⟩
  simp only [Try.f16, Try.ntmps16, Act.eval, List.map_toArray, List.map_cons, List.map_nil, Array.getD_eq_getD_getElem?, List.getElem?_toArray, List.getElem?_cons_succ, List.getElem?_cons_zero, Option.getD_some, List.size_toArray, List.length_cons, List.length_nil, Nat.reduceAdd, Nat.reduceSub, Array.replicate_succ, Array.replicate_zero, List.push_toArray, List.append_toArray, List.nil_append, List.cons_append]
  repeat (refine CX.one rfl (fun w₁ h₁ => ?_)
          walk_rw
          refine ⟨by simp, ?_⟩
          replace hG := PG.rel hG h₁
          clear h₁)
  refine CX.one rfl (fun w₁ h₁ => ?_)
  replace hG := PG.rel hG h₁
  clear h₁
  refine goes_oper_k rfl rfl (by decide) (fun K hK => ?_)
  have hsz := PG.size hG
  simp only [List.length_append, List.length_cons, List.length_nil, Nat.zero_add, Nat.reduceAdd] at hsz
  go_simp
  refine hK _ _ ⟨fun e he => ?_, ?_⟩
  · have hm := mem_listed he
    simp [go_sem, *] at hm
  clear hK K hsz
  replace hG := PG.alloc hG (.cells #[.int .i64 a, .int .i64 b, .int .i64 x, .int .i64 y, .bool e, .int .i64 u, .int .i64 v] 24)
  simp only [List.nil_append, List.cons_append] at hG
  refine CX.one rfl (fun w₁ h₁ => ?_)
  replace hG := PG.rel hG h₁
  clear h₁
  refine goes_oper_k rfl rfl (by decide) (fun K hK => ?_)
  have hsz := PG.size hG
  simp only [List.length_append, List.length_cons, List.length_nil, Nat.zero_add, Nat.reduceAdd] at hsz
  go_simp
  refine hK _ _ ⟨fun e he => ?_, ?_⟩
  · have hm := mem_listed he
    simp [go_sem, *] at hm
  clear hK K hsz
  replace hG := PG.alloc hG (.cells #[.int .i64 s] 3)
  simp only [List.nil_append, List.cons_append] at hG
  refine CX.one rfl (fun w₁ h₁ => ?_)
  replace hG := PG.rel hG h₁
  clear h₁
  refine goes_oper_k rfl rfl (by decide) (fun K hK => ?_)
  have q0 := Own.cell (PG.own hG hBx) 0
  have q1 := Own.cell (PG.own hG hBx) 1
  have q2 := Own.cell (PG.own hG hBx) 2
  have q3 := Own.cell (PG.own hG hBx) 3
  have q4 := Own.cell (PG.own hG hBx) 4
  have q5 := Own.cell (PG.own hG hBx) 5
  have q6 := Own.cell (PG.own hG hBx) 6
  simp only [List.getElem?_cons_zero, List.getElem?_cons_succ] at q0 q1 q2 q3 q4 q5 q6
  go_simp
  refine hK _ _ ⟨fun e he => ?_, ?_⟩
  · have hm := mem_listed he
    simp [go_sem, *] at hm
    try (first | (rw [hm]; intro hc; cases hc; done) | (rcases hm with h | h | h | h | h | h | h <;> (rw [h]; intro hc; cases hc)))
  clear hK K q0 q1 q2 q3 q4 q5 q6
  repeat (refine CX.one rfl (fun w₁ h₁ => ?_)
          walk_rw
          refine ⟨by simp, ?_⟩
          replace hG := PG.rel hG h₁
          clear h₁)
  refine CX.one rfl (fun w₁ h₁ => ?_)
  replace hG := PG.rel hG h₁
  clear h₁
  refine goes_oper_k rfl rfl (by decide) (fun K hK => ?_)
  have hsz := PG.size hG
  simp only [List.length_append, List.length_cons, List.length_nil, Nat.zero_add, Nat.reduceAdd] at hsz
  go_simp
  refine hK _ _ ⟨fun e he => ?_, ?_⟩
  · have hm := mem_listed he
    simp [go_sem, *] at hm
  clear hK K hsz
  replace hG := PG.alloc hG (.chan 0 #[] false 0 0 false)
  simp only [List.nil_append, List.cons_append] at hG
  refine CX.one rfl (fun w₁ h₁ => ?_)
  replace hG := PG.rel hG h₁
  clear h₁
  refine goes_oper_k rfl rfl (by decide) (fun K hK => ?_)
  have hsz := PG.size hG
  simp only [List.length_append, List.length_cons, List.length_nil, Nat.zero_add, Nat.reduceAdd] at hsz
  go_simp
  refine hK _ _ ⟨fun e he => ?_, ?_⟩
  · have hm := mem_listed he
    simp [go_sem, *] at hm
  clear hK K hsz
  replace hG := PG.alloc hG (.cells #[.chan none] 74)
  simp only [List.nil_append, List.cons_append] at hG
  -- the channel into its box
  refine CX.one rfl (fun w₄ h₁ => ?_)
  replace hG := PG.rel hG h₁
  clear h₁
  have c4 : Own w₄ (W.heap.size + 4) 74 [.chan none] := hG.at_ 4 (by simp)
  have c40 := c4.cell 0
  have c4f := c4.frozen
  simp only [List.getElem?_cons_zero] at c40
  refine goes_oper_k rfl rfl (by decide) (fun K hK => ?_)
  go_simp
  refine hK _ _ ⟨fun e he => ?_, ?_⟩
  · have hm := mem_listed he
    simp [go_sem, *] at hm
    rw [hm]
    intro hc
    cases hc
  clear hK K c40 c4f c4
  have hK := FK.of hG
  clear hG hBx
  generalize w₄.setCell ⟨W.heap.size + 4, 0, none⟩ (.chan (some (W.heap.size + 3))) = w₅ at hK ⊢
  repeat (refine CX.one rfl (fun w₁ h₁ => ?_)
          walk_rw
          refine ⟨by simp, ?_⟩
          replace hK := FK.rel hK h₁
          clear h₁)
  refine CX.one rfl (fun w₁ h₁ => ?_)
  replace hK := FK.rel hK h₁
  clear h₁
  refine goes_oper_k rfl rfl (by decide) (fun K hK => ?_)
  go_simp
  refine hK _ _ ⟨fun e he => ?_, ?_⟩
  · have hm := mem_listed he
    simp [go_sem, *] at hm
  clear hK K
  -- the go statement
  refine CX.phase (D := fun _ _ es => ∀ e ∈ es, e.loc ≠ .mark .disable) (fun _ _ _ h => h) (n := 0) (Goes.stop fun w₆ h₁ => ?_)
  replace hK := FK.rel hK h₁
  clear h₁
  have hlen : (bks a b s).length ≤ 10000 := by rw [bks_len]; have := bks_small ha hb hs.1; omega
  refine ⟨rfl, G ((base 16).at ⟨#[vCamera a b x y e u v, .int .i64 s, .pointer (some ⟨W.heap.size + 1, 0, none⟩), .pointer (some ⟨W.heap.size + 2, 0, none⟩), .chan none, .pointer (some ⟨W.heap.size + 4, 0, none⟩), .chan (some (W.heap.size + 3)), .func (.func 30) #[] #[.pointer (some ⟨W.heap.size + 4, 0, none⟩), .pointer (some ⟨W.heap.size + 1, 0, none⟩), .pointer (some ⟨W.heap.size + 2, 0, none⟩)], undef], []⟩ [.inRegion ops162 [], .code tail16]) [(base 5).at ⟨#[vCamera a b x y e u v, .int .i64 s, .pointer (some ⟨B, 0, none⟩), undef, .slice none 0 0, .slice (some ⟨W.heap.size, 0, none⟩) 0 0, undef, vCamera a b x y e u v, .bool true, .bool false, .bool false, .int .i64 s, .bool true, .bool false, .bool false, .slice (some ⟨W.heap.size, 0, none⟩) 0 0, vCamera a b x y e u v, .int .i64 s, undef, undef, undef, undef, undef, undef, undef, undef, undef], []⟩ [.inRegion ops54 [2], .code B5, .code tail5], F3], born Try.prog (call30 (W.heap.size + 1)), w₆, #[], W.heap.size + 3, Shared (W.heap.size + 1) a b s, Mine (W.heap.size + 1), vBucket 0 0 0 0, (bks a b s).map vB, 0, 0, false, ?_, by simp, fun w w₁ ha h => Shared.aside ha h, hK.sh, hK.chn, ?_, sends_all (W.heap.size + 1) a b s (by omega) (by omega) (by omega)⟩
  · simp only [ops162, tail16, ops54, B5, tail5, body16, body5, Try.f16, Try.f5, Option.getD_some]
    rw [stepG_spawn (d := call30 (W.heap.size + 1)) (w' := w₆) (f := .func 30) (c := #[.pointer (some ⟨W.heap.size + 4, 0, none⟩), .pointer (some ⟨W.heap.size + 1, 0, none⟩), .pointer (some ⟨W.heap.size + 2, 0, none⟩)]) rfl rfl (by decide) (by simp [go_sem, call30, Deferred.ofValue]) rfl]
    simp [listed, go_sem, seen, Deferred.ofValue]
    rfl
  · have hAF : AF W.heap.size W (some ⟨W.heap.size, 0, none⟩) 0 0 [] w₆ :=
      ⟨⟨rfl, .inr ⟨W.heap.size, 0, #[], rfl, Nat.le_refl _, hK.row, Nat.le_refl _, Nat.zero_le _, rfl, rfl⟩⟩, fun k hk => by simp [gOf] at hk; exact .inl hk, hK.below, by rw [hK.size]; exact Nat.le_refl _, hK.sh.cc⟩
    refine recvs_all W.heap.size W a b s F3 (Q5 F3 w a b s) (bks a b s) (some ⟨W.heap.size, 0, none⟩) 0 0 [] (by omega) _ _ rfl rfl rfl rfl w₆ hAF fun g w' hf => ?_
    obtain ⟨A, c, T, h1, h2, h3, h4⟩ := hf
    simp only [Nat.zero_add, List.nil_append] at h2 h4
    exact ⟨A, c, T, W.heap.size, W, h1, h2, h3, hQ.hb.size, hQ.hb, h4⟩
end
end Go.Proofs.Ythpanpedoeghoaa
namespace Go.Proofs.Ythpanpedoeghoaa
open Go.Conc Go.RowKit Go.Proofs.Ythpanpedoeghoaa.Lift
set_option linter.unusedVariables false
set_option linter.unusedSimpArgs false
noncomputable def ops34 : Array Oper := match Try.f3.body.getD .skip with | .seq _ (.seq _ (.seq _ (.seq (.region _ ops _) _))) => ops | _ => #[]
/-- What is said at the law's end. -/
def PostB (w0 : World) (v : Value) (w : World) : Prop := v = .bool true ∧ HB w0.heap.size w0 w
theorem rB_row : ∀ l : List EBucket, rB l = rBucket l
  | [] => rfl
  | e :: l => by simp only [rB, rB_row l]; rfl
section
variable (F3 : Frame)
set_option maxRecDepth 100000 in
set_option maxHeartbeats 4000000 in
/-- BucketsOf, from where it has found the channel closed to its return. -/
theorem f5_back {w0 : World} {a b s : Nat} {Post : Goroutine → World → Prop} {g : Goroutine} {w : World} (h : Q5 F3 w0 a b s g w)
    (next : ∀ (A : Option Addr) (c : Nat) (w' : World), HB w0.heap.size w0 w' → RS w' 4 A (bks a b s).length c (rBucket (bks a b s)) → CX Try.prog False (G (F3.finish (.slice A (bks a b s).length c)) []) w' Post) : CX Try.prog False g w Post := by
  obtain ⟨A, c, T, M, W, rfl, hT, h19, hM, hW, hF⟩ := h
  refine CX.goes (D := fun _ _ _ => True) (Stop := fun g w' => ∃ (T : Array Value) (k : List Item), g = G { (base 5).at ⟨T, []⟩ k with mode := .returning } [F3] ∧ T[4]? = some (.slice A (bks a b s).length c) ∧ AF M W A (bks a b s).length c (rB (bks a b s)) w') False.elim (fun a' w' hs => ?_) 30
    (Goes.weaken (fun w w₁ h => by obtain ⟨d, rfl⟩ := h; exact Aside.at _ _ _) (fun _ _ _ _ => trivial) _ (seg_a3 M W a b s F3 0 _ A _ c _ T hT h19 w hF fun T k w' hs h4 hF' => Goes.stop fun w₁ h₁ => ⟨T, k, rfl, h4, hF'.aside h₁⟩))
  obtain ⟨T, k, rfl, h4, hF'⟩ := hs w' (atRel_refl w')
  refine CX.one rfl (fun w₁ h₁ => ?_)
  have hF1 : AF M W A (bks a b s).length c (rB (bks a b s)) w₁ := hF'.aside (by obtain ⟨d, rfl⟩ := h₁; exact Aside.at _ _ _)
  rw [stepG_leave (v := .slice A (bks a b s).length c) rfl rfl Try.func5 (by simp [results, Try.results5, go_sem, h4]) (by simp [results, Try.results5, go_sem, h4])]
  simp only [goes_go]
  refine ⟨by simp, next A c w₁ (hW.trans (HB.of hF1.below) hM) ?_⟩
  have := hF1.own.rs
  rw [rB_row] at this
  exact this
end
theorem bodyPost_mono {P : Program} {fn : Func} {R R' : Ending → World → Prop} (h : ∀ e w, R e w → R' e w) : ∀ e a w, bodyPost P fn R e a w → bodyPost P fn R' e a w := by
  intro e a w hq
  cases e with
  | normal => obtain ⟨hd, v, hr, hR⟩ := hq; exact ⟨hd, v, hr, h _ _ hR⟩
  | ret => obtain ⟨hd, v, hr, hR⟩ := hq; exact ⟨hd, v, hr, h _ _ hR⟩
  | panic chain => obtain ⟨hd, hR⟩ := hq; exact ⟨hd, h _ _ hR⟩
  | outgrown => exact h _ _ hq
  | exit id => exact hq
  | goto l => exact hq
theorem codeR : ZB.code plainOp 3 R34 = true := by kernel_rfl
theorem frameR (T : Array Value) : FrameOk ZB plainOp ((base 3).at ⟨T, []⟩ [.code R34]) :=
  ⟨.inl rfl, rfl, rfl, fun it (hit : it ∈ [Item.code R34]) => by rw [List.mem_singleton.1 hit]; exact codeR, fun d (hd : d ∈ ([] : List Deferred)) => absurd hd List.not_mem_nil, fun t (ht : t ∈ ([] : List Nat)) => absurd ht List.not_mem_nil⟩
theorem noInit : Try.prog.inits.idxOf? 3 = none := by kernel_rfl
theorem code5 : Try.f5.body = some body5 := by simp [body5, Try.f5]
theorem ntmps5 : Try.f5.ntmps = 27 := by kernel_rfl
set_option maxRecDepth 100000 in
set_option maxHeartbeats 400000 in
/-- From the call of BucketsOf to the end. -/
theorem f3_call {a b s Bc c : Nat} {x y u v q r : Int} {e : Bool} {A : Option Addr} {l : List Int} (w0 w : World) (ha : 2 ≤ a ∧ a ≤ 5) (hb : 2 ≤ b ∧ b ≤ 5) (hs : 1 ≤ s ∧ s ≤ 5) (hv : validCam a b x y u v = true)
    (hQ : PQ w0 Bc [.int .i64 a, .int .i64 b, .int .i64 x, .int .i64 y, .bool e, .int .i64 u, .int .i64 v] w) :
    CX Try.prog True (G ((base 3).at ⟨#[.slice A l.length c, undef, .bool false, .pointer (some ⟨Bc, 0, none⟩), undef, undef, undef, undef, undef, undef, .slice A l.length c, .int .i64 l.length, .bool false, .slice A l.length c, vCamera a b x y e u v, vCamera a b x y e u v, .slice A l.length c, .int .i64 r, .int .i64 q, .int .i64 s] ++ Array.replicate 88 undef, []⟩ [.inRegion ops34 [5, 6], .code R34]) []) w (fun g w' => CX Try.prog False g w' (AtRet Try.prog (PostB w0))) := by
  simp only [Array.replicate_succ, Array.replicate_zero, List.push_toArray, List.append_toArray, List.nil_append, List.cons_append]
  refine CX.one rfl (fun w₁ h₁ => ?_)
  replace hQ := PQ.rel hQ h₁
  clear h₁
  rw [stepG_callF (f := 5) (c := body5) (xs := #[.tmp 15, .tmp 19]) (ats := #[24, 3]) (by rfl) (by rfl) (by decide) (by rfl) Try.func5 code5 rfl]
  simp only [goes_go]
  refine ⟨by simp, ?_⟩
  simp only [ntmps5, Act.eval, List.map_toArray, List.map_cons, List.map_nil, Array.getD_eq_getD_getElem?, List.getElem?_toArray, List.getElem?_cons_succ, List.getElem?_cons_zero, Option.getD_some, List.size_toArray, List.length_cons, List.length_nil, Nat.reduceAdd, Nat.reduceSub]
  with_reducible refine CX.mono (f5_fork _ w₁ ha hb hs hv) fun g w' h5 => ?_
  with_reducible refine f5_back _ h5 fun A' c' w₂ hB hR => ?_
  clear h5
  simp only [ops34, Try.f3, Option.getD_some, Frame.finish_at]
  walk_nrm
  refine CX.one rfl (fun w₃ h₃ => ?_)
  refine goes_oper_k rfl rfl (by decide) (fun K hK => ?_)
  go_simp
  refine hK _ _ ⟨fun e he => ?_, ?_⟩
  · have hm := mem_listed he
    simp [go_sem] at hm
  clear hK K
  refine CX.one rfl (fun w₄ h₄ => ?_)
  rw [stepG_region_end]
  simp only [goes_go]
  refine ⟨by simp, ?_⟩
  replace hQ := ((hQ.step hB).rel h₃).rel h₄
  have hR4 : RS w₄ 4 A' (bks a b s).length c' (rBucket (bks a b s)) := by
    obtain ⟨d, rfl⟩ := h₃
    obtain ⟨d', rfl⟩ := h₄
    exact hR
  clear h₃ h₄ hR hB w₂ w₃ w₁
  refine CX.mono (CX.tail (R := PostB w0) tightZB False.elim ?_ rfl Try.func3 ?_ ?_) ?_
  · exact frameR _
  · exact fun v w T d h => ⟨h.1, h.2.tw T d⟩
  · intro T d
    refine Code.wp_mono (bodyPost_mono fun e' w' h => ?_) (L_tail (tw w₄ T d) ha hb hs hv hQ.box hR4 _ _ _ _ _ _ _ _ _ _ _ _ _ _ _ _ _ _ _ _ _ _ _ _ _ _ _ _ _ _ _ _ _ _ _ _ _ _ _ _ _ _ _ _ _ _ _ _ _ _ _ _ _ _ _ _ _ _ _ _ _ _ _ _ _ _ _ _ _ _ _ _ _ _ _ _ _ _ _ _ _ _ _ _ _ _ _ _ _ _ _ _ _ _ _ _ _ _ _ _ _ _ _ _ _ _)
    obtain ⟨rfl, hB⟩ := h
    exact ⟨_, rfl, rfl, hQ.hb.trans (HB.of hB).un hQ.hb.size⟩
  · rintro g w' ⟨fr, v, rfl, hfr, hlv, hR⟩
    refine ⟨fr, v, rfl, by rw [hfr]; exact noInit, fun d => ⟨?_, hR.1, hR.2.at d⟩⟩
    exact leaving_tw tightZB (by rw [hfr]; rfl) hlv w'.tape d
end Go.Proofs.Ythpanpedoeghoaa
namespace Go.Proofs.Ythpanpedoeghoaa
open Go.Conc Go.RowKit Go.Proofs.Ythpanpedoeghoaa.Lift
set_option linter.unusedVariables false
set_option linter.unusedSimpArgs false
noncomputable def body3 : Code := Try.f3.body.getD .skip
theorem code3 : Try.f3.body = some body3 := by simp [body3, Try.f3]
theorem ntmps3 : Try.f3.ntmps = 108 := by kernel_rfl
theorem departs34 : Region.departs ops34 = false := by kernel_rfl
theorem alls34 : alls .any ops34 7 (Array.replicate 7 false) [] = [[0, 1, 2, 3, 4, 5, 6], [1, 0, 2, 3, 4, 5, 6], [1, 2, 0, 3, 4, 5, 6], [1, 2, 3, 0, 4, 5, 6], [1, 2, 3, 4, 0, 5, 6]] := by kernel_rfl
theorem size34 : ops34.size = 7 := by kernel_rfl
theorem sched34 (m : Bool) (t : Nat) : Region.schedule m ops34 t ∈ [[0, 1, 2, 3, 4, 5, 6], [1, 0, 2, 3, 4, 5, 6], [1, 2, 0, 3, 4, 5, 6], [1, 2, 3, 0, 4, 5, 6], [1, 2, 3, 4, 0, 5, 6]] := by
  unfold Region.schedule
  rw [departs34]
  simp only [Bool.not_false, Bool.or_true, if_true]
  unfold Region.linearise
  rw [size34, ← alls34]
  exact go_mem _ _ _ _ _ _
/-- What is known ahead of the camera. -/
structure PF (w0 : World) (A : Option Addr) (c : Nat) (l : List Int) (w : World) : Prop where
  hb : HB w0.heap.size w0 w
  rs : RS w 1 A l.length c (u8s l)
theorem PF.rel {w0 w w₁ : World} {A : Option Addr} {c : Nat} {l : List Int} (h : PF w0 A c l w) (hr : AtRel w w₁) : PF w0 A c l w₁ := by obtain ⟨d, rfl⟩ := hr; exact ⟨h.hb.at d, h.rs⟩
theorem rs_hb {w w₁ : World} {sz n c : Nat} {A : Option Addr} {xs : List Value} (h : RS w sz A n c xs) (hb : HB w.heap.size w w₁) : RS w₁ sz A n c xs := RS.step (w := tw w w₁.tape w.drawn) hb.below h
/-- .. behind it. -/
structure PR (w0 : World) (B : Nat) (cs : List Value) (A : Option Addr) (c : Nat) (l : List Int) (w : World) : Prop where
  q : PQ w0 B cs w
  rs : RS w 1 A l.length c (u8s l)
theorem PR.rel {w0 w w₁ : World} {B c : Nat} {cs : List Value} {A : Option Addr} {l : List Int} (h : PR w0 B cs A c l w) (hr : AtRel w w₁) : PR w0 B cs A c l w₁ := by obtain ⟨d, rfl⟩ := hr; exact ⟨h.q.rel ⟨d, rfl⟩, h.rs⟩
theorem PR.step {w0 w w₁ : World} {B c : Nat} {cs : List Value} {A : Option Addr} {l : List Int} (h : PR w0 B cs A c l w) (hr : HB w.heap.size w w₁) : PR w0 B cs A c l w₁ := ⟨h.q.step hr, rs_hb h.rs hr⟩
@[go_sem] theorem events_store_bool (P : Program) (w : World) (es : Array Event) (a : Addr) (m : Mode) (b : Bool) : (store a (.bool b) m).events P w es = storedEv P w es a (.bool b) m := events_store P w es a _ m rfl
theorem rs_tw {w : World} {sz n c : Nat} {A : Option Addr} {xs : List Value} (h : RS w sz A n c xs) (T : Nat → Question → Nat) (d : Nat) : RS (tw w T d) sz A n c xs := h
set_option maxRecDepth 100000 in
set_option maxHeartbeats 2000000 in
theorem run_law {A : Option Addr} {c : Nat} {l : List Int} (w0 : World) (h : RS w0 1 A l.length c (u8s l)) :
    CX Try.prog True (G (Frame.enter Try.prog 3 #[.slice A l.length c] .normal) []) w0 (fun g w' => CX Try.prog False g w' (AtRet Try.prog (PostB w0))) := by
  rw [enter_at _ Try.func3 code3, ntmps3]
  simp only [body3, Try.f3, Option.getD_some, List.size_toArray, List.length_cons, List.length_nil, Nat.reduceAdd, Nat.reduceSub, Array.replicate_succ, Array.replicate_zero, List.push_toArray, List.append_toArray, List.nil_append, List.cons_append]
  have hF : PF w0 A c l w0 := ⟨HB.refl _ _, h⟩
  have hlm := h.len
  unfold maxLen at hlm
  have H0 := Lib.hid h
  clear h
  rcases Nat.lt_or_ge 1048576 l.length with hbig | hsm
  · have hb' : (1048576 : Int) < (l.length : Int) := by omega
    repeat (first
      | (refine CX.one rfl (fun w₁ h₁ => ?_)
         walk_rw
         refine ⟨by simp, ?_⟩
         replace hF := PF.rel hF h₁
         clear h₁)
      | (refine CX.one rfl (fun w₁ h₁ => ?_)
         replace hF := PF.rel hF h₁
         clear h₁
         refine goes_oper_k rfl rfl (by decide) (fun K hK => ?_)
         go_simp
         refine hK _ _ ⟨fun e he => ?_, ?_⟩
         · have hm := mem_listed he
           simp [go_sem, *] at hm
         clear hK K))
    refine CX.one rfl (fun w₁ h₁ => ?_)
    rw [stepG_cond (t := true) rfl]
    simp only [goes_go, if_true, if_false, Bool.false_eq_true, ↓reduceIte]
    refine ⟨by simp, ?_⟩
    replace hF := PF.rel hF h₁
    clear h₁
    repeat (first
      | (refine CX.one rfl (fun w₁ h₁ => ?_)
         walk_rw
         refine ⟨by simp, ?_⟩
         replace hF := PF.rel hF h₁
         clear h₁)
      | (refine CX.one rfl (fun w₁ h₁ => ?_)
         replace hF := PF.rel hF h₁
         clear h₁
         refine goes_oper_k rfl rfl (by decide) (fun K hK => ?_)
         go_simp
         refine hK _ _ ⟨fun e he => ?_, ?_⟩
         · have hm := mem_listed he
           simp [go_sem, *] at hm
         clear hK K))
    exact CX.done (CX.done ⟨_, .bool true, rfl, noInit, fun d => ⟨⟨rfl, rfl, rfl, _, Try.func3, by simp [results, Try.results3, go_sem, Frame.at]⟩, rfl, hF.hb.at d⟩⟩)
  · have hb' : ¬ (1048576 : Int) < (l.length : Int) := by omega
    repeat (first
      | (refine CX.one rfl (fun w₁ h₁ => ?_)
         walk_rw
         refine ⟨by simp, ?_⟩
         replace hF := PF.rel hF h₁
         clear h₁)
      | (refine CX.one rfl (fun w₁ h₁ => ?_)
         replace hF := PF.rel hF h₁
         clear h₁
         refine goes_oper_k rfl rfl (by decide) (fun K hK => ?_)
         go_simp
         refine hK _ _ ⟨fun e he => ?_, ?_⟩
         · have hm := mem_listed he
           simp [go_sem, *] at hm
         clear hK K))
    refine CX.one rfl (fun w₁ h₁ => ?_)
    rw [stepG_cond (t := false) rfl]
    simp only [goes_go, if_true, if_false, Bool.false_eq_true, ↓reduceIte]
    refine ⟨by simp, ?_⟩
    replace hF := PF.rel hF h₁
    clear h₁
    repeat (first
      | (refine CX.one rfl (fun w₁ h₁ => ?_)
         walk_rw
         refine ⟨by simp, ?_⟩
         replace hF := PF.rel hF h₁
         clear h₁)
      | (refine CX.one rfl (fun w₁ h₁ => ?_)
         replace hF := PF.rel hF h₁
         clear h₁
         refine goes_oper_k rfl rfl (by decide) (fun K hK => ?_)
         go_simp
         refine hK _ _ ⟨fun e he => ?_, ?_⟩
         · have hm := mem_listed he
           simp [go_sem, *] at hm
         clear hK K))
    -- the camera
    refine CX.callB (fun r => ∃ (a b : Nat) (x y : Int) (f : Bool) (u v : Int), r = vCamera a b x y f u v ∧ (2 ≤ a ∧ a ≤ 5) ∧ (2 ≤ b ∧ b ≤ 5) ∧ validCam a b x y u v = true) #[.slice A l.length c] tightZA (fun _ m h => h) rfl rfl (by decide) rfl Try.func4 rfl rfl rfl rfl (by simp [Act.eval]) (fun T d => ?_) ?_
    · with_reducible refine (S_makeCamera (l := l) _ hsm (rs_tw hF.rs T d)).mono ?_
      rintro r w' ⟨⟨a, b, x, y, f, u, v, rfl, ha, hb, hv⟩, h⟩
      exact ⟨_, rfl, ⟨a, b, x, y, f, u, v, rfl, ha, hb, hv⟩, (HB.of h).un⟩
    rintro v' w' ⟨a, b, x, y, e, u, v, rfl, ha, hb, hv⟩ h
    replace hF : PF w0 A c l w' := ⟨hF.hb.trans h hF.hb.size, rs_hb hF.rs h⟩
    clear h
    -- into its box
    refine CX.one rfl (fun w₁ h₁ => ?_)
    replace hF := PF.rel hF h₁
    clear h₁
    refine goes_oper_k rfl rfl (by decide) (fun K hK => ?_)
    go_simp
    refine hK _ _ ⟨fun e he => ?_, ?_⟩
    · have hm := mem_listed he
      simp [go_sem] at hm
    clear hK K
    have hQ : PR w0 w₁.heap.size [.int .i64 0, .int .i64 0, .int .i64 0, .int .i64 0, .bool false, .int .i64 0, .int .i64 0] A c l (w₁.alloc (.cells #[.int .i64 0, .int .i64 0, .int .i64 0, .int .i64 0, .bool false, .int .i64 0, .int .i64 0] 24)) :=
      ⟨⟨HB.trans hF.hb (HB.of ((Below.refl _ _).alloc (Nat.le_refl _) _)) hF.hb.size, Own.new _ _ _, hF.hb.size⟩, hF.rs.alloc _⟩
    generalize w₁.alloc (.cells #[.int .i64 0, .int .i64 0, .int .i64 0, .int .i64 0, .bool false, .int .i64 0, .int .i64 0] 24) = w₂ at hQ ⊢
    generalize w₁.heap.size = Bc at hQ ⊢
    clear hF w₁
    refine CX.one rfl (fun w₁ h₁ => ?_)
    replace hQ := PR.rel hQ h₁
    clear h₁
    have q0 := Own.cell hQ.q.box 0
    have q1 := Own.cell hQ.q.box 1
    have q2 := Own.cell hQ.q.box 2
    have q3 := Own.cell hQ.q.box 3
    have q4 := Own.cell hQ.q.box 4
    have q5 := Own.cell hQ.q.box 5
    have q6 := Own.cell hQ.q.box 6
    have qf := Own.frozen hQ.q.box
    simp only [List.getElem?_cons_zero, List.getElem?_cons_succ] at q0 q1 q2 q3 q4 q5 q6
    refine goes_oper_k rfl rfl (by decide) (fun K hK => ?_)
    go_simp
    refine hK _ _ ⟨fun e he => ?_, ?_⟩
    · have hm := mem_listed he
      simp [go_sem, *] at hm
      rcases hm with h | h | h | h | h | h | h <;> (rw [h]; intro hc; cases hc)
    clear hK K q0 q1 q2 q3 q4 q5 q6 qf
    have hB0 : HB w0.heap.size w0 (((((((w₁.setCell ⟨Bc, 0, none⟩ (.int .i64 a)).setCell ⟨Bc, 1, none⟩ (.int .i64 b)).setCell ⟨Bc, 2, none⟩ (.int .i64 x)).setCell ⟨Bc, 3, none⟩ (.int .i64 y)).setCell ⟨Bc, 4, none⟩ (.bool e)).setCell ⟨Bc, 5, none⟩ (.int .i64 u)).setCell ⟨Bc, 6, none⟩ (.int .i64 v)) :=
      hQ.q.hb.trans (HB.of (((((((((Below.refl w0.heap.size w₁).setCell hQ.q.ge _).setCell hQ.q.ge _).setCell hQ.q.ge _).setCell hQ.q.ge _).setCell hQ.q.ge _).setCell hQ.q.ge _).setCell hQ.q.ge _))) (Nat.le_refl _)
    have hQ2 : PR w0 Bc [.int .i64 a, .int .i64 b, .int .i64 x, .int .i64 y, .bool e, .int .i64 u, .int .i64 v] A c l (((((((w₁.setCell ⟨Bc, 0, none⟩ (.int .i64 a)).setCell ⟨Bc, 1, none⟩ (.int .i64 b)).setCell ⟨Bc, 2, none⟩ (.int .i64 x)).setCell ⟨Bc, 3, none⟩ (.int .i64 y)).setCell ⟨Bc, 4, none⟩ (.bool e)).setCell ⟨Bc, 5, none⟩ (.int .i64 u)).setCell ⟨Bc, 6, none⟩ (.int .i64 v)) :=
      ⟨⟨hB0, ((((((hQ.q.box.set_ 0 (.int .i64 a)).set_ 1 (.int .i64 b)).set_ 2 (.int .i64 x)).set_ 3 (.int .i64 y)).set_ 4 (.bool e)).set_ 5 (.int .i64 u)).set_ 6 (.int .i64 v), hQ.q.ge⟩, rs_hb H0.out hB0⟩
    generalize (((((((w₁.setCell ⟨Bc, 0, none⟩ (.int .i64 a)).setCell ⟨Bc, 1, none⟩ (.int .i64 b)).setCell ⟨Bc, 2, none⟩ (.int .i64 x)).setCell ⟨Bc, 3, none⟩ (.int .i64 y)).setCell ⟨Bc, 4, none⟩ (.bool e)).setCell ⟨Bc, 5, none⟩ (.int .i64 u)).setCell ⟨Bc, 6, none⟩ (.int .i64 v)) = w₃ at hQ2 ⊢
    clear hQ hB0 w₁ w₂
    -- to the region that draws its order
    repeat (refine CX.one rfl (fun w₁ h₁ => ?_); walk_rw; refine ⟨by simp, ?_⟩; replace hQ2 := PR.rel hQ2 h₁; clear h₁)
    refine CX.one rfl (fun w₁ h₁ => ?_)
    replace hQ2 := PR.rel hQ2 h₁
    clear h₁
    rw [stepG_region_draw]
    simp only [goes_go]
    refine ⟨by simp, ?_⟩
    have hQ3 : PR w0 Bc [.int .i64 a, .int .i64 b, .int .i64 x, .int .i64 y, .bool e, .int .i64 u, .int .i64 v] A c l (w₁.at (w₁.drawn + 1)) := PR.rel hQ2 ⟨_, rfl⟩
    obtain ⟨L, hL⟩ : ∃ L, L = Region.schedule (Try.prog.follows .mixedOrders) ops34 (w₁.tape w₁.drawn (.order 3 4)) := ⟨_, rfl⟩
    have hm := sched34 (Try.prog.follows .mixedOrders) (w₁.tape w₁.drawn (.order 3 4))
    rw [← hL] at hm
    simp only [ops34, Try.f3, Option.getD_some] at hL
    simp only [show (base 3).fn = 3 from rfl]
    rw [← hL]
    clear hL
    change CX _ _ _ (w₁.at (w₁.drawn + 1)) _
    generalize w₁.at (w₁.drawn + 1) = w₂ at hQ3 ⊢
    clear hQ2 w₁ w₃
    simp only [List.mem_cons, List.not_mem_nil, or_false] at hm
    have hM : ∀ w, RS w 1 A l.length c (u8s l) → Calls Try.prog 6 #[.slice A l.length c, .int .i64 1] w fun e w' => ∃ x, e = .returned (.int .i64 x) ∧ 0 ≤ x ∧ x ≤ 65535 ∧ Below w.heap.size w w' := fun w h => S_makeNum (n := 1) w hsm (by omega) h
    rcases hm with rfl | rfl | rfl | rfl | rfl
    all_goals
      repeat (refine CX.one rfl (fun w₁ h₁ => ?_)
              replace hQ3 := PR.rel hQ3 h₁
              clear h₁
              refine goes_oper_k rfl rfl (by decide) (fun K hK => ?_)
              have q0 := Own.cell (PQ.box (PR.q hQ3)) 0
              have q1 := Own.cell (PQ.box (PR.q hQ3)) 1
              have q2 := Own.cell (PQ.box (PR.q hQ3)) 2
              have q3 := Own.cell (PQ.box (PR.q hQ3)) 3
              have q4 := Own.cell (PQ.box (PR.q hQ3)) 4
              have q5 := Own.cell (PQ.box (PR.q hQ3)) 5
              have q6 := Own.cell (PQ.box (PR.q hQ3)) 6
              simp only [List.getElem?_cons_zero, List.getElem?_cons_succ] at q0 q1 q2 q3 q4 q5 q6
              go_simp
              refine hK _ _ ⟨fun e he => ?_, ?_⟩
              · have hm := mem_listed he
                simp [go_sem, *] at hm
                try (first | (rw [hm]; intro hc; cases hc; done) | (rcases hm with h | h | h | h | h | h | h <;> (rw [h]; intro hc; cases hc)))
              clear hK K q0 q1 q2 q3 q4 q5 q6)
      refine CX.callB (fun r => ∃ x : Int, r = .int .i64 x ∧ 0 ≤ x ∧ x ≤ 65535) #[.slice A l.length c, .int .i64 1] tightZA (fun _ m h => h) rfl rfl (by decide) rfl Try.func6 rfl rfl rfl rfl (by simp [Act.eval]) (fun T d => ?_) ?_
      · with_reducible refine (hM _ (rs_tw hQ3.rs T d)).mono ?_
        rintro r w' ⟨x', rfl, h0, h1, h⟩
        exact ⟨_, rfl, ⟨x', rfl, h0, h1⟩, (HB.of h).un⟩
      rintro v' w' ⟨r, rfl, hr0, hr1⟩ h
      replace hQ3 := hQ3.step h
      clear h
      have ht0 : 0 ≤ Int.tmod r 5 := Int.tmod_nonneg _ hr0
      have ht1 : Int.tmod r 5 < 5 := Int.tmod_lt_of_pos _ (by omega)
      have yt : IntKind.i64.wrap (Int.tmod r 5) = Int.tmod r 5 := IntWalk.i64_in _ (by omega)
      obtain ⟨q, hq⟩ : ∃ q : Int, Int.tmod r 5 = q := ⟨_, rfl⟩
      rw [hq] at yt ht0 ht1
      obtain ⟨s, hs1, hs5, hsw⟩ : ∃ s : Nat, 1 ≤ s ∧ s ≤ 5 ∧ IntKind.i64.wrap (1 + q) = (s : Int) := ⟨(1 + q).toNat, by omega, by omega, by rw [IntKind.wrap_i64]; omega⟩
      repeat (refine CX.one rfl (fun w₁ h₁ => ?_)
              replace hQ3 := PR.rel hQ3 h₁
              clear h₁
              refine goes_oper_k rfl rfl (by decide) (fun K hK => ?_)
              have q0 := Own.cell (PQ.box (PR.q hQ3)) 0
              have q1 := Own.cell (PQ.box (PR.q hQ3)) 1
              have q2 := Own.cell (PQ.box (PR.q hQ3)) 2
              have q3 := Own.cell (PQ.box (PR.q hQ3)) 3
              have q4 := Own.cell (PQ.box (PR.q hQ3)) 4
              have q5 := Own.cell (PQ.box (PR.q hQ3)) 5
              have q6 := Own.cell (PQ.box (PR.q hQ3)) 6
              simp only [List.getElem?_cons_zero, List.getElem?_cons_succ] at q0 q1 q2 q3 q4 q5 q6
              go_simp
              refine hK _ _ ⟨fun e he => ?_, ?_⟩
              · have hm := mem_listed he
                simp [go_sem, *] at hm
                try (first | (rw [hm]; intro hc; cases hc; done) | (rcases hm with h | h | h | h | h | h | h <;> (rw [h]; intro hc; cases hc)))
              clear hK K q0 q1 q2 q3 q4 q5 q6)
      have hfin := f3_call (q := q) (r := r) (c := c) (A := A) (l := l) (e := e) (s := s) w0 _ ha hb ⟨hs1, hs5⟩ hv hQ3.q
      simp only [ops34, R34, Try.f3, Option.getD_some, Array.replicate_succ, Array.replicate_zero, List.push_toArray, List.append_toArray, List.nil_append, List.cons_append] at hfin
      exact hfin
end Go.Proofs.Ythpanpedoeghoaa
