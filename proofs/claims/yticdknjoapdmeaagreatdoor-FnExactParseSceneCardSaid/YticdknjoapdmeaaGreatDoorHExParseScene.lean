/- FnExactParseScene: the statement, for every input that can be read as data; no further condition. -/
import Derived.Test.YticdknjoapdmeaaGreatDoorMl
set_option linter.unusedVariables false
namespace Go.Proofs.YticdknjoapdmeaaGreatDoor
open Go.ChangeShapes Go.WideShapes Go.ChangeAt Go.RowKit
theorem wz0 (os:Os) (args:Array Value):laidMetH Tryz.prog fnExactParseSceneLaid ((Zc0 os).forCall (λ_ _=>0) ⟨#[],args,[]⟩).memory :=
 laidMetH_of_parts (laidMet_of_run' 8 kr kr) kr
theorem wz1 (os:Os):((Zc0 os).forCall (λ_ _=>0) ⟨#[],#[.string ByteArray.empty],[]⟩).variablesB Tryz.checked.prog=true:=kr
theorem wz2 (os:Os):(((Zc0 os).forCall (λ_ _=>0) ⟨#[],#[.string ByteArray.empty],[]⟩).heap.toList.drop Tryz.checked.prog.globals.size).take ((begin Tryz.checked.prog (λ_ _=>0) default).world.heap.size-Tryz.checked.prog.globals.size)=(begin Tryz.checked.prog (λ_ _=>0) default).world.heap.toList.drop Tryz.checked.prog.globals.size:=kr
theorem wz3 (os:Os):Input.okWideB Tryz.checked.prog ((Zc0 os).forCall (λ_ _=>0) ⟨#[],#[.string ByteArray.empty],[]⟩) 3 ⟨#[],#[.string ByteArray.empty],[]⟩=true:=kr
theorem wz4 (os:Os) {H:Type} (enc:TypeId×Value->H):Rows.fnExactParseSceneSpec.preB enc Tryz.checked.prog Tryz.f3 [] false ((Zc0 os).forCall (λ_ _=>0) ⟨#[],#[.string ByteArray.empty],[]⟩).memory #[.string ByteArray.empty] 8=true:=kr
theorem wz5 (os:Os) {H:Type} (enc:TypeId×Value->H):Rows.fnExactParseSceneSpec.sizedB enc Tryz.checked.prog Tryz.f3 false ((Zc0 os).forCall (λ_ _=>0) ⟨#[],#[.string ByteArray.empty],[]⟩).memory #[.string ByteArray.empty] 8=true:=kr
theorem and_i {a b:Bool} (h:a=true) (k:b=true):(a&&b)=true:=by rw [h,k];rfl
set_option maxHeartbeats 16000000 in
set_option maxRecDepth 100000 in
theorem wz6:joinedFacts Tryz.pinned.checked.prog 3 Tryz.f3 Rows.fnExactParseSceneSpec Rows.fnExactParseSceneRow=true:=by
 unfold joinedFacts
 repeat' (with_reducible refine and_i ?_ ?_)
 all_goals (as_aux_lemma=>kernel_rfl)
theorem wz7:Rows.FnExactParseSceneSaid :=
 OpenClaim.holds_of_wide 3 Tryz.f3 rfl rfl rfl rfl rfl rfl rfl ⟨rfl,rfl,rfl,rfl,rfl⟩ rfl rfl rfl rfl rfl (by as_aux_lemma=>kernel_rfl) Tryz.func3 wz6
  (of_decide_eq_true (by as_aux_lemma=>kernel_rfl)) (by unfold Func.isWrapper;first|(rw [if_pos (by decide +kernel)];kernel_rfl)|(rw [if_neg (by decide +kernel)];exact ⟨rfl,rfl⟩))
  (λos started H enc _=>law_liftedH fnExactParseSceneLaid 3 Tryz.f3 Rows.fnExactParseSceneSpec [9] os started H enc Tryz.func3 (by as_aux_lemma=>kernel_rfl) rfl rfl rfl
   (λds hl=>by match ds,hl with|[d0],_=>exact ⟨rfl,rfl,rfl⟩)
   (List.forall_mem_cons.2 ⟨⟨by kernel_rfl,of_decide_eq_true (by as_aux_lemma=>kernel_rfl)⟩,(λ_ h=>absurd h List.not_mem_nil)⟩)
   (ChangeSpec.witness_at (enc:=enc) (C:=Tryz.checked) (os:=os) (X:=λw _=>laidMetH Tryz.prog fnExactParseSceneLaid w) false (Zc0 os) #[.string ByteArray.empty] 8 rfl (wz1 os) (wz2 os) (wz3 os) (wz4 os enc) (wz5 os enc) (wz0 os _)) FnExactParseScene_walk)
theorem FnExactParseScene_holds:Rows.FnExactParseSceneCardSaid :=
 Claim7.holds_tied_plain_at .later [] [.data,.data,.data,.data,.handle,.sentinel,.sentinel,.pinned] true (true,"c3ac552457d34ef87393b40dd4eddff88766bf4a23fa2a15c168d47209cb61e3") true
  wz7 (λ_ h=>by cases h) (by as_aux_lemma=>kernel_rfl) (λ_ h=>by cases h) fnExactParseScene_row_tie rfl ⟨rfl,rfl⟩ (by as_aux_lemma=>kernel_rfl) rfl
  (λf fn hf hfn=>by
   obtain rfl:f=3:=Option.some.inj ((show Tryz.prog.funcNamed "loop.example/g00809/laws.FnExactParseScene" = some 3 by kernel_rfl).symm.trans hf) |>.symm
   obtain rfl:fn=Tryz.f3:=(Option.some.inj (Tryz.func3.symm.trans hfn)).symm
   exact ⟨by kernel_rfl,λj t ht=>by
     rw [Tryz.params3] at ht
     rcases j with _|j
     ·obtain rfl:t=9:=by simpa using ht.symm
      exact (show Tryz.prog.wantsStandIn 9=false by kernel_rfl)
     ·simp at ht
⟩)
  (by as_aux_lemma=>kernel_rfl)
#print axioms FnExactParseScene_holds
end Go.Proofs.YticdknjoapdmeaaGreatDoor
