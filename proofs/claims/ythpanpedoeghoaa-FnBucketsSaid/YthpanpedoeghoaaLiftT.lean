/- The plain operations; the built-in functions. -/
import Derived.Test.YthpanpedoeghoaaLiftM
import Derived.Test.YthpanpedoeghoaaLiftB
import Derived.Conc.CompanyDraw
import Derived.Below
set_option linter.unnecessarySimpa false
set_option linter.unusedVariables false
set_option linter.unusedSimpArgs false
namespace Go.Proofs.Ythpanpedoeghoaa.Lift
open Go.Conc

section
variable {P : Program} {ok : Mark → Prop}

theorem m_followBlind : ∀ (l : List FieldStep) (t : TypeId) (x : Option Value), M P ok (followBlind l t x)
  | [], t, x => by unfold followBlind; trivial
  | s :: r, t, x => by
    unfold followBlind
    refine m_bind (m_underlying _) fun d => ?_
    split
    · split
      · split
        · trivial
        · exact m_followBlind r _ _
        · trivial
        · trivial
        · exact m_bind (m_part _ _ _) fun _ => m_followBlind r _ _
        · trivial
        · exact m_followBlind r _ _
      · trivial
    · trivial
theorem m_nilAhead : ∀ (n : Nat) (t : TypeId) (v : Value) (name : String), M P ok (nilAhead n t v name)
  | 0, _, _, _ => by unfold nilAhead; trivial
  | n + 1, t, v, name => by
    unfold nilAhead
    refine m_bind (m_typeInfo _) fun i => ?_
    split
    · refine m_bind (m_followBlind _ _ _) fun r => ?_
      split
      · trivial
      · split
        · exact m_nilAhead n _ _ _
        · trivial
        · trivial
        · trivial
        · trivial
        · refine m_bind (m_underlying _) fun d => ?_
          split <;> trivial
    · trivial

/-- The operations of which it is shown. -/
def plainOp : Op → Bool
  | .move _ | .assign _ | .pick .. | .alloc _ | .box .. | .build .. | .buildSlice .. | .load .. | .store .. | .nilCheck _ | .binOp .. | .unOp .. | .convert .. | .makeInterface .. | .makeFunc .. | .makeMap .. | .makeSlice ..
  | .slice .. | .fieldAddr .. | .field .. | .indexAddr .. | .index .. | .lookup .. | .mapUpdate .. | .insert .. | .range .. | .next .. | .typeAssert .. | .extract .. => true
  | _ => false

theorem flat_v {s : Sem Value} (h : M P ok s) : Mild P ok Flat (do pure (.value (← s)) : Sem Next) := Mild.bind h fun _ _ => trivial
theorem flat_u {s : Sem Unit} (h : M P ok s) : Mild P ok Flat (do s; pure .skip : Sem Next) := Mild.bind h fun _ _ => trivial

theorem flat_plain (hR : ok .noRoom) (o : Oper) (ρ : Operand → Value) (h : plainOp o.op = true) : Mild P ok Flat (execOp ρ o) := by
  unfold execOp
  cases ho : o.op with
  | move x => trivial
  | assign x => trivial
  | pick c a b => exact Mild.bind (m_asBool _) fun _ _ => trivial
  | alloc e => exact flat_v (m_alloc _ _ _)
  | box e x => exact flat_v (m_box _ _)
  | build t p => exact flat_v (m_build _ _)
  | buildSlice t l p => exact flat_v (m_buildSlice _ _ _)
  | load t a => exact flat_v (m_loadAt _ _)
  | store t a x => exact flat_u (m_storeAt _ _ _)
  | nilCheck x =>
    dsimp only
    split
    · exact mild_nilDeref
    · exact mild_nilDeref
    · exact mild_nilDeref
    · split
      · exact mild_nilDeref
      · refine Mild.bind (Q := fun _ => True) m_program fun p _ => Mild.bind (Q := fun _ => True) (m_nilAhead _ _ _ _) fun r _ => ?_
        split
        · exact Mild.bind (Q := fun _ => True) (m_unsupported _) fun _ _ => trivial
        · trivial
      · trivial
    · trivial
  | binOp op t x y n => exact flat_v (m_bind (m_eqGuard _ _ _ _ _ _) fun _ => m_binOp _ _ _ _)
  | unOp op t x => exact flat_v (m_unary _ _)
  | convert s d x => exact flat_v (m_convert _ _ _)
  | makeInterface t x => exact flat_v (m_makeInterface _ _)
  | makeFunc f a b => exact flat_v (m_makeFunc _ _ _)
  | makeMap t r => exact flat_v (m_makeMap _ _)
  | makeSlice t l c => exact flat_v (m_makeSlice hR _ _ _)
  | slice t x l h m => exact flat_v (m_sliceAt _ _ _ _ _)
  | fieldAddr s x f => exact flat_v (m_fieldAt _ _ _)
  | field t x f => exact flat_v (m_field _ _ _)
  | indexAddr t x i => exact flat_v (m_indexAt _ _ _)
  | index t x i => exact flat_v (m_index _ _ _)
  | lookup t x i b => exact flat_v (m_lookup _ _ _ _)
  | mapUpdate t m k x => exact flat_u (m_mapUpdate _ _ _ _)
  | insert t m k x => exact flat_u (m_mapUpdate _ _ _ _)
  | range t x => exact flat_v (m_range _ _)
  | next i b => exact flat_v (m_next _ _ _)
  | typeAssert x s t b => exact flat_v (m_typeAssert _ _ _ _)
  | extract t i => exact flat_v (m_extract _ _)
  | _ => rw [ho] at h; cases h

theorem flatV_v {s : Sem Value} (h : M P ok s) : Mild P ok FlatV (do pure (.value (← s)) : Sem Next) := Mild.bind h fun _ _ => trivial
theorem flat_builtin (hR : ok .noRoom) (b : Builtin) (hb : plainB b = true) (ts : Array TypeId) (t : TypeId) (cs : Array Bool) (args : Array Value) : Mild P ok FlatV (Go.builtin b ts t cs args) := by
  unfold Go.builtin
  cases b with
  | append => exact flatV_v (m_append hR _ _ _)
  | cap => exact flatV_v (m_cap _ _ _)
  | copy => exact flatV_v (m_copy _ _ _)
  | len => exact flatV_v (m_len _ _ _)
  | max => exact flatV_v (m_max _ _ _)
  | min => exact flatV_v (m_min _ _ _)
  | unsafeString => exact flatV_v (m_unsafeString _ _ _)
  | _ => cases hb
end
end Go.Proofs.Ythpanpedoeghoaa.Lift
set_option linter.unusedVariables false
set_option linter.unusedSimpArgs false
namespace Go.Proofs.Ythpanpedoeghoaa.Lift
open Go.Conc

section
variable {P : Program} {Z : Zone} {ok : Mark → Prop}

def fnB (P : Program) (Z : Zone) (f : FuncId) : Bool :=
  match P.funcs[f]? with
  | none => false
  | some fn => Z.base f && !(fn.name == "runtime.NumGoroutine") && match fn.body with
    | some c => Z.code plainOp f c
    | none => (Extern.findNext fn).isNone
def tightB (P : Program) (Z : Zone) (L : List FuncId) : Bool :=
  L.all (fun f => fnB P Z f) && P.follows .staticDataAhead && P.funcs.all fun f => match f.body with | some c => (readies c).isEmpty | none => true

theorem tight_of (L : List FuncId) (hB : tightB P Z L = true) (hL : ∀ f, Z.fn f = true → f ∈ L) (hbase : ∀ f, Z.base f = true → ∃ fn, P.funcs[f]? = some fn) (hdyn : ∀ f, Z.dyn f = true → Z.fn f = true ∧ Z.slots f = [])
    (hR : ok .noRoom) (hx : ∀ f fn, Z.fn f = true → P.funcs[f]? = some fn → fn.body = none → (∀ m : Mark, m ≠ .disable → ok m) ∧ ∀ e args, Extern.find fn = some e → M P ok (e args)) : Tight P Z plainOp ok := by
  simp only [tightB, Bool.and_eq_true, List.all_eq_true] at hB
  obtain ⟨⟨h1, h2⟩, h3⟩ := hB
  refine ⟨fun f hf => ?_, fun f hf => ?_, hdyn, fun o ρ h => flat_plain hR o ρ h, fun o h => ?_, fun b hb ts t cs args => flat_builtin hR b hb ts t cs args, fun g => ?_, h2⟩
  · obtain ⟨fn, hfn⟩ := hbase f hf
    exact ⟨fn, hfn, fun tmps => m_results fn tmps⟩
  · have := h1 f (hL f hf)
    unfold fnB at this
    cases hfn : P.funcs[f]? with
    | none => rw [hfn] at this; cases this
    | some fn =>
      rw [hfn] at this
      simp only [Bool.and_eq_true, Bool.not_eq_true'] at this
      obtain ⟨⟨hb, hn⟩, hc⟩ := this
      refine ⟨hb, fn, rfl, hn, ?_⟩
      cases hbd : fn.body with
      | some c => rw [hbd] at hc; exact .inl ⟨c, rfl, hc⟩
      | none =>
        rw [hbd] at hc
        obtain ⟨a, b⟩ := hx f fn hf hfn hbd
        exact .inr ⟨rfl, by simpa using hc, a, b⟩
  · constructor <;> (intro c hc; rw [hc] at h; cases h)
  · unfold Program.stepOf
    rw [Array.findIdx?_eq_none_iff]
    intro x hx'
    have := (Array.all_eq_true_iff_forall_mem.1 h3) x hx'
    cases hb : x.body with
    | none => simp [hb]
    | some c =>
      rw [hb] at this
      simp only [List.isEmpty_iff] at this
      simp [hb, this]
end
end Go.Proofs.Ythpanpedoeghoaa.Lift
set_option linter.unusedVariables false
set_option linter.unusedSimpArgs false
namespace Go.Proofs.Ythpanpedoeghoaa.Lift
open Go.Conc Go.RowKit

/-- 'Below', but for the tape and its draws. -/
structure HB (N : Nat) (w w' : World) : Prop where
  os : w'.os = w.os
  output : w'.output = w.output
  size : w.heap.size ≤ w'.heap.size
  block : ∀ k, k < N → w'.heap[k]? = w.heap[k]?
theorem HB.refl (N : Nat) (w : World) : HB N w w := ⟨rfl, rfl, Nat.le_refl _, fun _ _ => rfl⟩
theorem HB.of {N : Nat} {w w' : World} (h : Below N w w') : HB N w w' := ⟨h.os, h.output, h.size, h.block⟩
theorem HB.tw {N : Nat} {w w' : World} (h : HB N w w') (T : Nat → Question → Nat) (d : Nat) : HB N w (Lift.tw w' T d) := ⟨h.os, h.output, h.size, h.block⟩
theorem HB.un {N : Nat} {w w' : World} {T : Nat → Question → Nat} {d : Nat} (h : HB N (Lift.tw w T d) w') : HB N w w' := ⟨h.os, h.output, h.size, h.block⟩
theorem HB.at {N : Nat} {w w' : World} (h : HB N w w') (d : Nat) : HB N w (w'.at d) := ⟨h.os, h.output, h.size, h.block⟩
theorem HB.rel {N : Nat} {w w' w₁ : World} (h : HB N w w') (hr : AtRel w' w₁) : HB N w w₁ := by obtain ⟨d, rfl⟩ := hr; exact h.at d
theorem HB.trans {N M : Nat} {a b c : World} (h : HB N a b) (k : HB M b c) (hm : N ≤ M) : HB N a c := ⟨k.os.trans h.os, k.output.trans h.output, Nat.le_trans h.size k.size, fun i hi => (k.block i (by omega)).trans (h.block i hi)⟩
theorem HB.mono {N M : Nat} {a b : World} (h : HB N a b) (hm : M ≤ N) : HB M a b := ⟨h.os, h.output, h.size, fun i hi => h.block i (by omega)⟩
theorem HB.below {N : Nat} {w w' : World} (h : HB N w w') : Below N (Lift.tw w w'.tape w.drawn) w' := ⟨h.os, rfl, h.output, h.size, h.block⟩

section
variable {P : Program} {main : Bool} {H : Prop} {Post : Goroutine → World → Prop} {Z : Zone} {plain : Op → Bool} {ok : Mark → Prop}

theorem run_callF {f : FuncId} {fn : Func} {c : Code} (hfn : P.funcs[f]? = some fn) (hb : fn.body = some c) (hn : (fn.name == "runtime.NumGoroutine") = false) (args : Array Value) (w : World) : (callFunc f args).run P w = .ok (.enter f args) w := by
  have h1 : ¬ fn.name = "runtime.NumGoroutine" := by simpa using hn
  unfold callFunc
  simp [hfn, h1, hb]
theorem events_callF {f : FuncId} {fn : Func} {c : Code} (hfn : P.funcs[f]? = some fn) (hb : fn.body = some c) (hn : (fn.name == "runtime.NumGoroutine") = false) (args : Array Value) (w : World) (es : Array Event) : (callFunc f args).events P w es = es := by
  have h1 : ¬ fn.name = "runtime.NumGoroutine" := by simpa using hn
  unfold callFunc
  simp [hfn, h1, hb]

variable {b : Frame} {a : Act} {k : List Item} {cs : List Frame} {w : World} {ops : Array Oper} {i : Nat} {rest : List Nat} {o : Oper} {f : FuncId} {fn : Func} {c : Code} {xs : Array Operand} {ats : Array TypeId}

/-- A function with a body is entered. -/
theorem stepG_callF (ho : ops[i]? = some o) (hw : Region.wanted o (yielded ops a.tmps) = true) (hk : b.kind ≠ .early) (hop : o.op = .call { callee := .value (.func f), args := xs, argTypes := ats })
    (hfn : P.funcs[f]? = some fn) (hb : fn.body = some c) (hn : (fn.name == "runtime.NumGoroutine") = false) :
    stepG P main (G (b.at a (.inRegion ops (i :: rest) :: k)) cs) w =
      .go (G ((base f).at { tmps := xs.map a.eval ++ Array.replicate (fn.ntmps - (xs.map a.eval).size) undef, defers := [] } [.code c]) (b.at a (.inRegion ops (i :: rest) :: k) :: cs)) w #[] := by
  have e1 := execOp_call_func (a := a) hop
  rw [stepG_enter ho hw hk (by rw [e1]; exact run_callF hfn hb hn _ _), enter_at _ hfn hb]
  unfold listed
  rw [e1, events_callF hfn hb hn]
  simp [seen]

/-- A call by its lone contract. -/
theorem CX.callF {R : Value → World → Prop} (hP : Tight P Z plain ok) (hok : H → ∀ m, ok m → m ≠ .disable) (ho : ops[i]? = some o) (hw : Region.wanted o (yielded ops a.tmps) = true) (hk : b.kind ≠ .early) (hop : o.op = .call { callee := .value (.func f), args := xs, argTypes := ats })
    (hfn : P.funcs[f]? = some fn) (hb : fn.body = some c) (hn : (fn.name == "runtime.NumGoroutine") = false) (hf : Z.fn f = true) (hs : Z.slots f = []) (hR : ∀ v w T d, R v w → R v (tw w T d))
    (h : ∀ T d, Calls P f (xs.map a.eval) (tw w T d) fun e w' => ∃ v, e = .returned v ∧ R v w')
    (hgo : ∀ v w', R v w' → CX P H (G (b.at (a.put o.dst v) (.inRegion ops rest :: k)) cs) w' Post) : CX P H (G (b.at a (.inRegion ops (i :: rest) :: k)) cs) w Post := by
  have e1 := execOp_call_func (a := a) hop
  refine CX.calls hP hok ho hw hk (fun w => by rw [e1]; exact run_callF hfn hb hn _ _) (fun w _ e he => ?_) hf (FrameOk.enter hP hf ⟨fn, hfn, by rw [hb]; rfl⟩ (.inl rfl) (by rw [hs]; simp)) hR h hgo
  have : listed P b.fn a o w = #[] := by
    unfold listed
    rw [e1, events_callF hfn hb hn]
    simp [seen]
  rw [this] at he
  simp at he

/-- .. that keeps what was there. -/
theorem CX.callB (Rv : Value → Prop) (args : Array Value) (hP : Tight P Z plain ok) (hok : H → ∀ m, ok m → m ≠ .disable) (ho : ops[i]? = some o) (hw : Region.wanted o (yielded ops a.tmps) = true) (hk : b.kind ≠ .early) (hop : o.op = .call { callee := .value (.func f), args := xs, argTypes := ats })
    (hfn : P.funcs[f]? = some fn) (hb : fn.body = some c) (hn : (fn.name == "runtime.NumGoroutine") = false) (hf : Z.fn f = true) (hs : Z.slots f = []) (hargs : xs.map a.eval = args)
    (h : ∀ T d, Calls P f args (tw w T d) fun e w' => ∃ v, e = .returned v ∧ Rv v ∧ HB w.heap.size w w')
    (hgo : ∀ v w', Rv v → HB w.heap.size w w' → CX P H (G (b.at (a.put o.dst v) (.inRegion ops rest :: k)) cs) w' Post) : CX P H (G (b.at a (.inRegion ops (i :: rest) :: k)) cs) w Post :=
  CX.callF (R := fun v w' => Rv v ∧ HB w.heap.size w w') hP hok ho hw hk hop hfn hb hn hf hs (fun v w' T d h => ⟨h.1, h.2.tw T d⟩) (by rw [hargs]; exact h) fun v w' h => hgo v w' h.1 h.2

/-- 'Goes', with more let by and less asked of the others. -/
theorem Goes.weaken {R R' : World → World → Prop} {D D' : World → World → Array Event → Prop} {Stop : Goroutine → World → Prop} (hR : ∀ w w₁, R' w w₁ → R w w₁) (hD : ∀ w w' es, D w w' es → D' w w' es) :
    ∀ (n : Nat) {g : Goroutine} {w : World}, Goes P main R D Stop n g w → Goes P main R' D' Stop n g w
  | 0, g, w, h => fun w₁ h₁ => h w₁ (hR _ _ h₁)
  | n + 1, g, w, h => by
    rcases h with h | ⟨h1, h2⟩
    · exact .inl fun w₁ h₁ => h w₁ (hR _ _ h₁)
    · refine .inr ⟨h1, fun w₁ h₁ => ?_⟩
      obtain ⟨g', w', es, e, hd, hg⟩ := goes_elim (h2 w₁ (hR _ _ h₁))
      rw [e]
      exact ⟨hD _ _ _ hd, Goes.weaken hR hD n hg⟩

/-- All orders in which a region's operations may be taken. -/
def alls (m : Region.Mode) (ops : Array Oper) : Nat → Array Bool → List Nat → List (List Nat)
  | 0, _, acc => [acc.reverse]
  | n + 1, listed, acc =>
    let rs := (List.range ops.size).filter fun i => !listed.getD i true && ((ops[i]?).map (·.after.all fun e => !Region.binds m e || listed.getD e.on false)).getD false
    if rs.isEmpty then [acc.reverse] else rs.flatMap fun i => alls m ops n (listed.setIfInBounds i true) (i :: acc)
theorem go_mem (m : Region.Mode) (ops : Array Oper) : ∀ (n t : Nat) (listed : Array Bool) (acc : List Nat), Region.linearise.go m ops n t listed acc ∈ alls m ops n listed acc
  | 0, _, _, _ => by simp [Region.linearise.go, alls]
  | n + 1, t, listed, acc => by
    unfold Region.linearise.go alls
    dsimp only
    generalize (List.range ops.size).filter (fun i => !listed.getD i true && ((ops[i]?).map (·.after.all fun e => !Region.binds m e || listed.getD e.on false)).getD false) = rs
    cases h : rs[t % rs.length]? with
    | none =>
      have : rs = [] := by
        rcases Nat.eq_zero_or_pos rs.length with h0 | h0
        · exact List.eq_nil_of_length_eq_zero h0
        · rw [List.getElem?_eq_none_iff] at h
          have := Nat.mod_lt t h0
          omega
      subst this
      simp
    | some i =>
      have hm : i ∈ rs := List.mem_of_getElem? h
      have hne : rs.isEmpty = false := by cases rs with | nil => simp at hm | cons => rfl
      simp only [hne, Bool.false_eq_true, if_false, List.mem_flatMap]
      exact ⟨i, hm, go_mem m ops n _ _ _⟩
end
end Go.Proofs.Ythpanpedoeghoaa.Lift
