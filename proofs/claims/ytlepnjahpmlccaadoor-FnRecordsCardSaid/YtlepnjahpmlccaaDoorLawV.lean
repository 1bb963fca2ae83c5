/- The frame of a law's statement where the reading takes a package-level variable of an interface's type too. -/
import Derived.Test.YtlepnjahpmlccaaDoorTxtE
namespace Go.Proofs.YtlepnjahpmlccaaDoor
open Go.ChangeShapes Go.WideShapes Go.ChangeAt Go.RowKit
set_option linter.unusedVariables false
theorem weights_head {H : Type} : ∀ {ts us : List TypeId} {ds es : List (DataW H)}, ds.length = ts.length → (DataW.weightsEach Tryd.prog (ts ++ us) (ds ++ es)).all (· ≤ reachBytes) = true → (DataW.weightsEach Tryd.prog ts ds).all (· ≤ reachBytes) = true
  | [], us, ds, es, hl, h => by
    obtain rfl : ds = [] := List.eq_nil_of_length_eq_zero hl
    rfl
  | t :: ts, us, [], es, hl, h => by cases hl
  | t :: ts, us, d :: ds, es, hl, h => by
    simp only [List.cons_append, DataW.weightsEach, List.all_append, Bool.and_eq_true] at h ⊢
    exact ⟨h.1, weights_head (by simpa using hl) h.2⟩
set_option maxRecDepth 100000 in
theorem law_liftedV {n : String} {g : Nat} {ti : TypeId} {ms : Array (String × TypeId)} (hgn : Tryd.prog.globalNamed n = some g) (hgt : (Tryd.prog.globals[g]?).map (·.type) = some ti) (hgi : Tryd.prog.underlying ti = some (.interface ms)) (laid : List (String × DataW Unit)) (F : FuncId) (fn : Func) (s : ChangeSpec) (ts : List TypeId) (os : Os) (started : os.Started) (H : Type) (enc : TypeId × Value → H)
    (hfn : Tryd.checked.prog.funcs[F]? = some fn) (hidx : Tryd.checked.prog.inits.idxOf? F = none) (hp : fn.params = ⟨ts⟩) (hr : fn.resultTypes = #[4]) (hv : s.vars = [n]) (hvar : ∀ W : World, laidMet Tryd.prog laid W → ∃ x : Value, IsIface x ∧ W.var? Tryd.prog n = some #[x])
    (hs : ∀ (ds : List (DataW H)) (y : DataW H), ds.length = ts.length → (s.fn H (ds ++ [y])).results = [.lit (.bool true)] ∧ (s.fn H (ds ++ [y])).args = ds ∧ (s.fn H (ds ++ [y])).vars = [y])
    (hread : ∀ t ∈ ts, Tryd.prog.readableRec t = true ∧ t < Tryd.prog.types.size)
    (hwit : ∃ (w : World) (tape : Tape) (i : Input), w.os = os ∧ (w.forCall tape i).Shaped Tryd.checked.prog ∧ i.vars = [] ∧ Input.okWide Tryd.checked.prog (w.forCall tape i) .any w.heap.size F i ∧
      ((s.pre enc Tryd.checked.prog fn [] false (w.forCall tape i).memory i.args ∧ laidMet Tryd.prog laid (w.forCall tape i).memory) ∧ sizedMet enc Tryd.checked.prog fn (OpenSpec.ofChange s) false (w.forCall tape i).memory i.args) ∧ Assume.holds {} Tryd.checked.prog (lone (Frame.enter Tryd.checked.prog F i.args .normal) [] (w.forCall tape i)))
    (hw : LawWalkD laid F ts) :
    ReturnsInHanded {} Tryd.checked os F .any (fun w args => (s.pre enc Tryd.prog fn [] false w args ∧ laidMet Tryd.prog laid w) ∧ sizedMet enc Tryd.prog fn (OpenSpec.ofChange s) false w args) (s.post enc Tryd.prog fn false true false false) := by
  refine returnsInHanded_of_calls (C := Tryd.checked) P.own started hidx hwit ?_
  intro w0 tape0 i0 _ hsh _ hok hpre _
  obtain ⟨_, _, _, fn', hfn', _, _, _, _, hval00⟩ := hok
  obtain rfl : fn' = fn := Option.some.inj (hfn'.symm.trans hfn)
  obtain ⟨⟨⟨ds, gs, before, hW0, hcnd⟩, hL0⟩, hz⟩ := hpre
  have hsz0 := hz.weights hW0
  suffices hgo : Calls Tryd.prog F i0.args (w0.forCall tape0 i0) fun e W' => ∃ v, e = .returned v ∧ s.post enc Tryd.prog fn' false true false false (w0.forCall tape0 i0) i0.args v W' from
    hgo.mono fun e W' ⟨v, he, hp⟩ => by subst he; exact ChangeSpec.post_blind hp
  have hW := DataW.Whole.of_heap (w' := w0.forCall tape0 i0) (by rfl) hW0
  have hL : laidMet Tryd.prog laid (w0.forCall tape0 i0) := laidMet.of_heap (by rfl) hL0
  have hval0 := hval00
  clear hW0 hL0 hval00 hz
  generalize hWW : w0.forCall tape0 i0 = W at *
  generalize hAA : i0.args = args at *
  generalize hBB : w0.heap.size = base at *
  clear hWW hAA hBB
  have hval : ∀ (j : Nat) t v, fn'.params[j]? = some t → args[j]? = some v → Value.okWide Tryd.prog W .any base t v := hval0
  have hW' := hW
  obtain ⟨p, q, hA0, hV, rfl, hfz, hnd⟩ := hW
  have hA : DataW.TrodAll enc Tryd.prog W 0 (fun _ => true) true fn'.params.toList args.toList ds p := hA0
  rw [hv] at hV
  obtain ⟨x, hxi, hxv⟩ := hvar W hL
  obtain ⟨rfl, rfl⟩ := DataW.TrodVars.unique hV (vars_read1 enc hgn hgt hgi hxv hxi _)
  have hl : ds.length = ts.length := by rw [hp] at hA; exact trodAll_len ts _ _ _ hA
  have hsz : (DataW.weightsEach Tryd.prog ts ds).all (· ≤ reachBytes) = true := by
    have h0 : (DataW.weightsEach Tryd.prog (fn'.params.toList ++ s.plain.varTypes Tryd.prog) (ds ++ [tok enc x])).all (· ≤ reachBytes) = true := hsz0
    rw [hp] at h0
    exact weights_head hl h0
  rw [hp] at hA hval
  have hlt : ∀ x ∈ p, x.block < W.heap.size := fun x hx => hW'.lt x (by simp [hx])
  obtain ⟨e1, e2, e3⟩ := hs ds (tok enc x) hl
  refine (hw H enc W base args ds p hA (fun j t v h1 h2 => hval j t v (by simpa using h1) h2) hlt hsz hL hsh).mono fun e W' ⟨he, bel⟩ => ?_
  subst he
  refine ⟨_, rfl, _, _, _, [], p, [.cell g 0], hW', ?_, ?_, ?_, bel.frame _, fun h => by cases h⟩
  · rw [e1, hr]
    exact trodAll_mk1 (shut_bool Tryd.underlying4 _)
  · rw [e2, hp]
    exact trodAll_below ts _ _ _ hread hA bel hlt
  · rw [e3, hv]
    exact vars_read1 enc hgn hgt hgi (var_step hxv bel) hxi _
end Go.Proofs.YtlepnjahpmlccaaDoor
