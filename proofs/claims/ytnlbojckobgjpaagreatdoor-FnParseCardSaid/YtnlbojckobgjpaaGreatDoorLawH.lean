/- The frame of a law's statement where the row lists a type's handle: from the walk to the row. -/
import Derived.Test.YtnlbojckobgjpaaGreatDoorMgA
import Derived.LaidLaws
import Derived.LaidHandle
import Derived.Stop.Joined
import Derived.Handed
import Derived.SevenTiedAt
import Derived.SizedLaws
import Derived.Stop.LaidErr
import Derived.Test.YtnlbojckobgjpaaGreatDoorTie
import Derived.Test.YtnlbojckobgjpaaGreatDoorCards
set_option linter.unusedVariables false
set_option linter.unusedSimpArgs false
namespace Go.Proofs.YtnlbojckobgjpaaGreatDoor
open Go.ChangeShapes Go.WideShapes Go.ChangeAt Go.RowKit
/-- What a law's walk shows of its arguments' values; what the listed variables hold is told. -/
def LawWalkH (laid : List (String × DataW Unit)) (F : FuncId) (ts : List TypeId) : Prop :=
  ∀ (H : Type) (enc : TypeId × Value → H) (W : World) (base : Nat) (args : Array Value) (ds : List (DataW H)) (ps : List MemPlace),
    DataW.TrodAll enc Tryz.prog W 0 (fun _ => true) true ts args.toList ds ps → (∀ (j : Nat) t v, ts[j]? = some t → args[j]? = some v → Value.okWide Tryz.prog W .any base t v) → (∀ x ∈ ps, x.block < W.heap.size) →
    (DataW.weightsEach Tryz.prog ts ds).all (· ≤ reachBytes) = true → laidMetH Tryz.prog laid W → W.ShapedOpen Tryz.prog →
    Calls Tryz.prog F args W fun e W' => e = .returned (.bool true) ∧ Below W.heap.size W W'

set_option maxRecDepth 100000 in
theorem law_liftedH (laid : List (String × DataW Unit)) (F : FuncId) (fn : Func) (s : ChangeSpec) (ts : List TypeId) (os : Os) (started : os.Started) (H : Type) (enc : TypeId × Value → H)
    (hfn : Tryz.checked.prog.funcs[F]? = some fn) (hidx : Tryz.checked.prog.inits.idxOf? F = none) (hp : fn.params = ⟨ts⟩) (hr : fn.resultTypes = #[4]) (hv : s.vars = [])
    (hs : ∀ ds : List (DataW H), ds.length = ts.length → (s.fn H (ds ++ [])).results = [.lit (.bool true)] ∧ (s.fn H (ds ++ [])).args = ds ∧ (s.fn H (ds ++ [])).vars = [])
    (hread : ∀ t ∈ ts, Tryz.prog.readableRec t = true ∧ t < Tryz.prog.types.size)
    (hwit : ∃ (w : World) (tape : Tape) (i : Input), w.os = os ∧ (w.forCall tape i).Shaped Tryz.checked.prog ∧ i.vars = [] ∧ Input.okWide Tryz.checked.prog (w.forCall tape i) .any w.heap.size F i ∧
      ((s.pre enc Tryz.checked.prog fn [] false (w.forCall tape i).memory i.args ∧ laidMetH Tryz.prog laid (w.forCall tape i).memory) ∧ sizedMet enc Tryz.checked.prog fn (OpenSpec.ofChange s) false (w.forCall tape i).memory i.args) ∧ Assume.holds {} Tryz.checked.prog (lone (Frame.enter Tryz.checked.prog F i.args .normal) [] (w.forCall tape i)))
    (hw : LawWalkH laid F ts) :
    ReturnsInHanded {} Tryz.checked os F .any (fun w args => (s.pre enc Tryz.prog fn [] false w args ∧ laidMetH Tryz.prog laid w) ∧ sizedMet enc Tryz.prog fn (OpenSpec.ofChange s) false w args) (s.post enc Tryz.prog fn false true false false) := by
  refine returnsInHanded_of_calls (C := Tryz.checked) P.own started hidx hwit ?_
  intro w0 tape0 i0 _ hsh _ hok hpre _
  obtain ⟨_, _, _, fn', hfn', _, _, _, _, hval00⟩ := hok
  obtain rfl : fn' = fn := Option.some.inj (hfn'.symm.trans hfn)
  obtain ⟨⟨⟨ds, gs, before, hW0, hcnd⟩, hL0⟩, hz⟩ := hpre
  have hsz0 := hz.weights hW0
  suffices hgo : Calls Tryz.prog F i0.args (w0.forCall tape0 i0) fun e W' => ∃ v, e = .returned v ∧ s.post enc Tryz.prog fn' false true false false (w0.forCall tape0 i0) i0.args v W' from
    hgo.mono fun e W' ⟨v, he, hp⟩ => by subst he; exact ChangeSpec.post_blind hp
  have hW := DataW.Whole.of_heap (w' := w0.forCall tape0 i0) (by rfl) hW0
  have hL : laidMetH Tryz.prog laid (w0.forCall tape0 i0) := laidMetH.of_heap (by rfl) hL0
  have hval0 := hval00
  clear hW0 hL0 hval00 hz
  generalize hWW : w0.forCall tape0 i0 = W at *
  generalize hAA : i0.args = args at *
  generalize hBB : w0.heap.size = base at *
  clear hWW hAA hBB
  have hval : ∀ (j : Nat) t v, fn'.params[j]? = some t → args[j]? = some v → Value.okWide Tryz.prog W .any base t v := hval0
  have hW' := hW
  obtain ⟨p, q, hA0, hV, rfl, hfz, hnd⟩ := hW
  have hA : DataW.TrodAll enc Tryz.prog W 0 (fun _ => true) true fn'.params.toList args.toList ds p := hA0
  rw [hv] at hV
  obtain ⟨rfl, rfl⟩ := trodVars_none hV
  have hsz : (DataW.weightsEach Tryz.prog ts ds).all (· ≤ reachBytes) = true := by
    have e : s.plain.varTypes Tryz.prog = [] := by
      have : s.plain.vars = [] := hv
      simp [DataSpec.varTypes, this]
    have h0 : (DataW.weightsEach Tryz.prog (fn'.params.toList ++ s.plain.varTypes Tryz.prog) (ds ++ [])).all (· ≤ reachBytes) = true := hsz0
    rw [e, hp] at h0
    simpa using h0
  rw [hp] at hA hval
  have hlt : ∀ x ∈ p, x.block < W.heap.size := fun x hx => hW'.lt x (by simp [hx])
  have hl : ds.length = ts.length := trodAll_len ts _ _ _ hA
  obtain ⟨e1, e2, e3⟩ := hs ds hl
  simp only [List.append_nil] at hW'
  refine (hw H enc W base args ds p hA (fun j t v h1 h2 => hval j t v (by simpa using h1) h2) hlt hsz hL hsh).mono fun e W' ⟨he, bel⟩ => ?_
  subst he
  refine ⟨_, rfl, _, _, _, [], p, [], hW', ?_, ?_, ?_, bel.frame _, fun h => by cases h⟩
  · rw [e1, hr]
    exact trodAll_mk1 (shut_bool Tryz.underlying4 _)
  · rw [e2, hp]
    exact trodAll_below ts _ _ _ hread hA bel hlt
  · rw [e3, hv]
    rfl
/-- A start that fits: the variable holds the handle of 'error'. -/
noncomputable def laidWorldH (os : Os) : World :=
  let w0 := World.holding Tryz.prog os ⟨#[], #[], []⟩
  { w0 with heap := w0.heap.modify 0 fun
      | .cells _ t frozen => .cells #[.iface 135 (.agg #[.pointer (some ⟨5, 50, none⟩)])] t frozen
      | o => o }
theorem H.et : Tryz.prog.globalNamed "errors.errorType" = some 0 := by kernel_rfl
theorem H.rt : (Tryz.prog.cutTypes.find? (·.1 == "internal/reflectlite.rtype")).map (·.2) = some 135 := by kernel_rfl
theorem H.oneRow : ((List.range Tryz.prog.types.size).filter fun t => Tryz.prog.rowNamed t [101, 114, 114, 111, 114]) = [50] := by kernel_rfl
abbrev handleLaid : List (String × DataW Unit) := [("errors.errorType", .iface "internal/reflectlite.rtype" (.agg [.ptr (.lit (.string [101, 114, 114, 111, 114]))]))]
/-- What the condition gives a walk: the variable's one cell. -/
theorem handle_of_laid {W : World} (h : laidMetH Tryz.prog handleLaid W) : W.cell? ⟨0, 0, none⟩ = some (.iface 135 (.agg #[.pointer (some ⟨5, 50, none⟩)])) := by
  have h' : laidMet Tryz.prog [] W ∧ handlesMet Tryz.prog handleLaid W := h
  obtain ⟨name, u, ty, e1, e2, e3, e4, e5⟩ := h'.2 _ (List.mem_singleton.2 rfl)
  have en : name = [101, 114, 114, 111, 114] := (Option.some.inj e1).symm
  subst en
  obtain rfl := Option.some.inj (H.rt.symm.trans e2)
  have hm : ty ∈ (List.range Tryz.prog.types.size).filter fun t => Tryz.prog.rowNamed t [101, 114, 114, 111, 114] := List.mem_filter.2 ⟨List.mem_range.2 e3, e4⟩
  rw [H.oneRow] at hm
  obtain rfl := List.mem_singleton.1 hm
  have hh : typeHandle Tryz.prog 50 = .pointer (some ⟨5, 50, none⟩) := by kernel_rfl
  rw [hh] at e5
  simpa using World.var?_cell H.et e5 0
end Go.Proofs.YtnlbojckobgjpaaGreatDoor
