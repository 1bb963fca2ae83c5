/- FnBuckets: the statement, for every input that can be read as data; no further condition. -/
import Derived.Test.YthpanpedoeghoaaBkC
import Derived.Conc.HoldsTime
set_option linter.unusedVariables false
set_option linter.unusedSimpArgs false
set_option linter.unnecessarySimpa false
namespace Go.Proofs.Ythpanpedoeghoaa
open Go.ChangeShapes Go.WideShapes Go.ChangeAt Go.RowKit Go.Conc Go.Proofs.Ythpanpedoeghoaa.Lift
set_option linter.unusedVariables false
theorem the_run {A : Option Addr} {c : Nat} {l : List Int} (W : World) (h : RS W 1 A l.length c (u8s l)) :
    ∃ N last o w' t', runNT Try.prog (N + 1) (solo (G (Frame.enter Try.prog 3 #[.slice A l.length c] .normal) []) W) #[] = (.ended o w', t') ∧ runN Try.prog N (solo (G (Frame.enter Try.prog 3 #[.slice A l.length c] .normal) []) W) = .next last ∧
      Go.step Try.prog last = .ended o w' ∧ Go.Conc.Good Try.prog (PostB W) last o w' t' :=
  run_of_cx2 (run_law W h) fun _ _ h => h
theorem params3 : Try.f3.params = ⟨[22]⟩ := by kernel_rfl
theorem results3T : Try.f3.resultTypes = #[4] := by kernel_rfl
theorem reads22 : Try.prog.readableRec 22 = true ∧ 22 < Try.prog.types.size := ⟨by kernel_rfl, of_decide_eq_true (by kernel_rfl)⟩
set_option maxRecDepth 100000 in
theorem lifted (os : Os) (started : os.Started) (H : Type) (enc : TypeId × Value → H) (F : Stop.Interp) :
    ReturnsInLeavingWide Rows.fnBucketsRow.assume Try.checked os 3 .any (Rows.fnBucketsSpec.pre6 enc Try.prog Try.f3 Rows.fnBucketsRow.domain false) ((OpenSpec.ofChange Rows.fnBucketsSpec).postWith enc Try.prog Try.f3 F (outsideKept [.timePasses]) false true false) := by
  refine returnsInLeavingWide_of_change_time (C := Try.checked) P.own started Try.func3
    (ChangeSpec.witness6c (enc := enc) (C := Try.checked) ⟨#[], #[.slice none 0 0], []⟩ 8 (by kernel_rfl) (by kernel_rfl) (by kernel_rfl) (by kernel_rfl)) ?_
  intro W base args ds gs before hval0 hW _ _ _
  have hval : ∀ (j : Nat) t v, Try.f3.params[j]? = some t → args[j]? = some v → Value.okWide Try.prog W .any base t v := hval0
  have hW' := hW
  obtain ⟨p, q, hA0, hV, rfl, hfz, hnd⟩ := hW
  have hA : DataW.TrodAll enc Try.prog W 0 (fun _ => true) true Try.f3.params.toList args.toList ds p := hA0
  obtain ⟨rfl, rfl⟩ := trodVars_none hV
  rw [params3] at hA hval
  have hlt : ∀ x ∈ p, x.block < W.heap.size := fun x hx => hW'.lt x (by simp [hx])
  have hl : ds.length = 1 := trodAll_len [22] _ _ _ hA
  obtain ⟨v0, rfl, h0⟩ := args1 hA (fun j t v h1 h2 => hval j t v (by simpa using h1) h2)
  obtain ⟨A, c, l, rfl, hr⟩ := h0.bytes
  simp only [List.append_nil] at hW'
  obtain ⟨M, last, o, w', t', r1, r2, r3, v, e, hp, g1, g2, g3, g4⟩ := the_run W hr
  obtain ⟨rfl, hk⟩ := hp
  refine ⟨M, last, o, w', t', r1, r2, r3, _, e, ⟨?_, by rw [hk.os]; exact Go.ConcM.OsLater.refl _⟩, g1, g2, g3, g4⟩
  have hbel : Below W.heap.size W { w' with os := W.os, tape := W.tape } := ⟨rfl, rfl, hk.output, hk.size, hk.block⟩
  have harg : DataW.TrodAll enc Try.prog { w' with os := W.os } 0 (fun b => decide (b < W.heap.size)) true [22] [.slice A l.length c] ds p :=
    (trodAll_below [22] _ _ _ (fun t ht => by simp at ht; subst ht; exact reads22) hA hbel hlt).of_heap (by rfl)
  match ds, hl with
  | [d0], _ =>
    refine ⟨_, _, _, [], p, [], hW', ?_, ?_, rfl, ?_, fun h => by cases h⟩
    · rw [results3T]; exact trodAll_mk1 (shut_bool Try.underlying4 _)
    · rw [params3]; exact harg
    · exact ⟨rfl, hk.output, (hbel.frame (fun z => z ∈ p ∧ (z ∈ ([] : List MemPlace) ∨ z ∈ p ∨ z ∈ ([] : List MemPlace)))).2.2⟩
set_option maxHeartbeats 4000000 in
theorem FnBuckets_holds : Rows.FnBucketsSaid :=
  OpenClaim.holds_of_wide_leaving_time 3 Try.f3 rfl rfl rfl rfl rfl rfl rfl ⟨rfl, rfl, rfl, rfl, rfl⟩ rfl rfl rfl rfl rfl (by kernel_rfl) Try.func3 (by kernel_rfl)
    (of_decide_eq_true (by kernel_rfl)) (by unfold Func.isWrapper; first | (rw [if_pos (by decide +kernel)]; kernel_rfl) | (rw [if_neg (by decide +kernel)]; exact ⟨rfl, rfl⟩))
    (fun os started H enc _ F => lifted os started H enc F)
#print axioms FnBuckets_holds
end Go.Proofs.Ythpanpedoeghoaa
