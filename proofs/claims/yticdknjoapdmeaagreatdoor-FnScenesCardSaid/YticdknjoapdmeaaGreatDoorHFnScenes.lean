/- FnScenes: the statement, for every input that can be read as data; no further condition. Its walk lies in the text that is imported. -/
import Derived.Test.YticdknjoapdmeaaGreatDoorMl
set_option linter.unusedVariables false
set_option linter.unusedSimpArgs false
set_option linter.unnecessarySimpa false
namespace Go.Proofs.YticdknjoapdmeaaGreatDoor
section
open Go.ChangeShapes Go.WideShapes Go.ChangeAt Go.RowKit
theorem FnScenes_laid (os:Os) (args:Array Value):laidMetH Tryz.prog Zez ((Zc9 os).forCall (λ_ _=>0) ⟨#[],args,[]⟩).memory :=
 laidMetH_of_parts (laidMet_of_run' 8 kr kr) kr
theorem FnScenes_w1 (os:Os):((Zc9 os).forCall (λ_ _=>0) ⟨#[],#[.slice none 0 0],[]⟩).variablesB Tryz.checked.prog=true:=kr
theorem FnScenes_w2 (os:Os):(((Zc9 os).forCall (λ_ _=>0) ⟨#[],#[.slice none 0 0],[]⟩).heap.toList.drop Tryz.checked.prog.globals.size).take ((begin Tryz.checked.prog (λ_ _=>0) default).world.heap.size-Tryz.checked.prog.globals.size)=(begin Tryz.checked.prog (λ_ _=>0) default).world.heap.toList.drop Tryz.checked.prog.globals.size:=kr
theorem FnScenes_w3 (os:Os):Input.okWideB Tryz.checked.prog ((Zc9 os).forCall (λ_ _=>0) ⟨#[],#[.slice none 0 0],[]⟩) 4 ⟨#[],#[.slice none 0 0],[]⟩=true:=kr
theorem FnScenes_w4 (os:Os) {H:Type} (enc:TypeId×Value->H):Rows.fnScenesSpec.preB enc Tryz.checked.prog Tryz.f4 [] false ((Zc9 os).forCall (λ_ _=>0) ⟨#[],#[.slice none 0 0],[]⟩).memory #[.slice none 0 0] 8=true:=kr
theorem FnScenes_w5 (os:Os) {H:Type} (enc:TypeId×Value->H):Rows.fnScenesSpec.sizedB enc Tryz.checked.prog Tryz.f4 false ((Zc9 os).forCall (λ_ _=>0) ⟨#[],#[.slice none 0 0],[]⟩).memory #[.slice none 0 0] 8=true:=kr
theorem and_i {a b:Bool} (h:a=true) (k:b=true):(a&&b)=true:=by rw [h,k];rfl
set_option maxHeartbeats 16000000 in
set_option maxRecDepth 100000 in
theorem FnScenes_closed:joinedFacts Tryz.pinned.checked.prog 4 Tryz.f4 Rows.fnScenesSpec Rows.fnScenesRow=true:=by
 unfold joinedFacts
 repeat' (with_reducible refine and_i ?_ ?_)
 all_goals (as_aux_lemma=>kernel_rfl)
theorem FnScenes_row:Rows.FnScenesSaid :=
 OpenClaim.holds_of_wide 4 Tryz.f4 rfl rfl rfl rfl rfl rfl rfl ⟨rfl,rfl,rfl,rfl,rfl⟩ rfl rfl rfl rfl rfl (by as_aux_lemma=>kernel_rfl) Tryz.func4 FnScenes_closed
  (of_decide_eq_true (by as_aux_lemma=>kernel_rfl)) (by unfold Func.isWrapper;first|(rw [if_pos (by decide +kernel)];kernel_rfl)|(rw [if_neg (by decide +kernel)];exact ⟨rfl,rfl⟩))
  (λos started H enc _=>Zrh Zez 4 Tryz.f4 Rows.fnScenesSpec [36] os started H enc Tryz.func4 (by as_aux_lemma=>kernel_rfl) rfl rfl rfl
   (λds hl=>by match ds,hl with|[d0],_=>exact ⟨rfl,rfl,rfl⟩)
   (List.forall_mem_cons.2 ⟨⟨by kernel_rfl,of_decide_eq_true (by as_aux_lemma=>kernel_rfl)⟩,(λ_ h=>absurd h List.not_mem_nil)⟩)
   (ChangeSpec.witness_at (enc:=enc) (C:=Tryz.checked) (os:=os) (X:=λw _=>laidMetH Tryz.prog Zez w) false (Zc9 os) #[.slice none 0 0] 8 rfl (FnScenes_w1 os) (FnScenes_w2 os) (FnScenes_w3 os) (FnScenes_w4 os enc) (FnScenes_w5 os enc) (FnScenes_laid os _)) FnScenes_walk)
theorem FnScenes_holds:Rows.FnScenesCardSaid :=
 Claim7.holds_tied_plain_at .later [] [.data,.data,.data,.data,.handle,.sentinel,.sentinel,.pinned] true (true,"c3ac552457d34ef87393b40dd4eddff88766bf4a23fa2a15c168d47209cb61e3") true
  FnScenes_row (λ_ h=>by cases h) (by as_aux_lemma=>kernel_rfl) (λ_ h=>by cases h) fnScenes_row_tie rfl ⟨rfl,rfl⟩ (by as_aux_lemma=>kernel_rfl) rfl
  (λf fn hf hfn=>by
   obtain rfl:f=4:=Option.some.inj ((show Tryz.prog.funcNamed "loop.example/g00809/laws.FnScenes" = some 4 by kernel_rfl).symm.trans hf) |>.symm
   obtain rfl:fn=Tryz.f4:=(Option.some.inj (Tryz.func4.symm.trans hfn)).symm
   exact ⟨by kernel_rfl,λj t ht=>by
     rw [Tryz.params4] at ht
     rcases j with _|j
     ·obtain rfl:t=36:=by simpa using ht.symm
      exact (show Tryz.prog.wantsStandIn 36=false by kernel_rfl)
     ·simp at ht
⟩)
  (by as_aux_lemma=>kernel_rfl)
#print axioms FnScenes_holds
end
end Go.Proofs.YticdknjoapdmeaaGreatDoor
