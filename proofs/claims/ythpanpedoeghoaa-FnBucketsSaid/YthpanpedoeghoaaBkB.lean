/- The zones of FnBuckets. -/
import Derived.Test.YthpanpedoeghoaaLiftT
import Derived.Test.YthpanpedoeghoaaChecked
import Derived.KernelRfl
set_option linter.unusedVariables false
set_option linter.unusedSimpArgs false
set_option linter.unnecessarySimpa false
namespace Go.Proofs.Ythpanpedoeghoaa
open Go.Conc Go.Proofs.Ythpanpedoeghoaa.Lift
set_option linter.unusedVariables false
def LA : List FuncId := [4, 6, 12, 13, 14, 15, 17, 18, 28, 29, 31]
def LB : List FuncId := [7, 8, 9, 10, 11, 14, 15, 19, 20, 21, 22, 23, 24, 25, 26, 27, 31, 32, 33, 34, 35, 36, 37, 38, 39, 40, 41, 42, 43, 44, 45, 46, 47, 48, 49, 50, 51, 52, 53, 54]
def ZA : Zone := { base := fun f => LA.contains f || f == 3 || f == 5, fn := fun f => LA.contains f, slots := fun _ => [], dyn := fun _ => false }
def ZB : Zone := { base := fun f => LB.contains f || f == 3, fn := fun f => LB.contains f, slots := fun f => if f == 9 then [28] else if f == 21 then [1, 6] else if f == 32 then [1, 11] else [], dyn := fun f => f == 23 }
theorem tightA : tightB Try.prog ZA LA = true := by kernel_rfl
theorem tightB_ : tightB Try.prog ZB LB = true := by kernel_rfl
end Go.Proofs.Ythpanpedoeghoaa
set_option linter.unusedVariables false
namespace Go.Proofs.Ythpanpedoeghoaa
open Go.Conc Go.Proofs.Ythpanpedoeghoaa.Lift
theorem hereA : (LA.all fun f => match Try.prog.funcs[f]? with | some fn => fn.body.isSome | none => false) = true := by kernel_rfl
theorem baseA : ((3 :: 5 :: LA).all fun f => Try.prog.funcs[f]?.isSome) = true := by kernel_rfl
theorem baseB : ((3 :: LB).all fun f => Try.prog.funcs[f]?.isSome) = true := by kernel_rfl
abbrev okA : Mark → Prop := fun m => m ≠ .disable
abbrev okB : Mark → Prop := fun _ => True
theorem tightZA : Tight Try.prog ZA plainOp okA := by
  refine tight_of LA tightA (fun f h => by simpa [ZA] using h) (fun f h => ?_) (fun f h => by simp [ZA] at h) (by simp) (fun f fn hf hfn hb => ?_)
  · have hm : f ∈ 3 :: 5 :: LA := by simp [ZA] at h ⊢; rcases h with (h | h) | h <;> simp [h]
    have := (List.all_eq_true.1 baseA) f hm
    exact Option.isSome_iff_exists.1 this
  · have hm : f ∈ LA := by simpa [ZA] using hf
    have := (List.all_eq_true.1 hereA) f hm
    rw [hfn] at this
    simp [hb] at this
section
variable {P : Program}
theorem mk_read (t : Extern.Atomic.T) (a : Addr) : M P okB (Extern.Atomic.read t a) := by
  unfold Extern.Atomic.read
  repeat' (first
    | with_reducible (first | assumption | exact m_asAddr _ | exact m_asInt _ | exact m_mark trivial | exact m_intArith _ _ _ _ | exact m_samePointer _ _ | exact m_typeInfo _ | exact m_goPanic _ | exact m_unsupported _ | exact m_stuck _ | exact m_program | exact m_choose _ | exact m_setObj _ _ | exact m_getObj _ | exact m_frozen _ | exact m_shape _ | exact m_newObj _ | exact m_store _ _ _ | exact m_load _ _ | exact m_halt _ | exact m_pure _)
    | with_reducible refine m_map ?_
    | with_reducible refine m_bind ?_ (fun _ => ?_)
    | with_reducible refine m_ite ?_ ?_
    | split
    | dsimp only)
theorem mk_any (f : Nat → Sem Bool) (h : ∀ i, M P okB (f i)) : ∀ l : List Nat, M P okB (l.anyM f)
  | [] => trivial
  | i :: l => by
    unfold List.anyM
    refine m_bind (h i) fun b => ?_
    split
    · trivial
    · exact mk_any f h l
theorem mk_at (args : Array Value) : M P okB (Extern.Race.at_ args) := by
  unfold Extern.Race.at_
  repeat' (first
    | with_reducible (first | assumption | exact m_asAddr _ | exact m_asInt _ | exact m_mark trivial | exact m_intArith _ _ _ _ | exact m_samePointer _ _ | exact m_typeInfo _ | exact m_goPanic _ | exact m_unsupported _ | exact m_stuck _ | exact m_program | exact m_choose _ | exact m_setObj _ _ | exact m_getObj _ | exact m_frozen _ | exact m_shape _ | exact m_newObj _ | exact m_store _ _ _ | exact m_load _ _ | exact m_halt _ | exact m_pure _)
    | with_reducible refine m_map ?_
    | with_reducible refine m_bind ?_ (fun _ => ?_)
    | with_reducible refine m_ite ?_ ?_
    | split
    | dsimp only)
theorem mk_frozen (a : Addr) : M P okB (Extern.Atomic.touchesFrozen a) := by
  unfold Extern.Atomic.touchesFrozen
  repeat' (first
    | with_reducible (first | assumption | exact m_asAddr _ | exact m_viewAt _ | (refine mk_any _ (fun _ => m_frozen _) _) | exact m_asInt _ | exact m_mark trivial | exact m_intArith _ _ _ _ | exact m_samePointer _ _ | exact m_typeInfo _ | exact m_goPanic _ | exact m_unsupported _ | exact m_stuck _ | exact m_program | exact m_choose _ | exact m_setObj _ _ | exact m_getObj _ | exact m_frozen _ | exact m_shape _ | exact m_newObj _ | exact m_store _ _ _ | exact m_load _ _ | exact m_halt _ | exact m_pure _)
    | with_reducible refine m_map ?_
    | with_reducible refine m_bind ?_ (fun _ => ?_)
    | with_reducible refine m_ite ?_ ?_
    | split
    | dsimp only)
end
section
variable {P : Program}
theorem mx_disable (args : Array Value) : M P okB ((fun _ => do mark .disable; pure Extern.Race.none_ : Array Value → Sem Value) args) := by
  repeat' (first
    | with_reducible (first | assumption | exact m_asAddr _ | exact mk_read _ _ | exact mk_frozen _ | exact mk_at _ | exact m_asInt _ | exact m_mark trivial | exact m_intArith _ _ _ _ | exact m_samePointer _ _ | exact m_typeInfo _ | exact m_goPanic _ | exact m_unsupported _ | exact m_stuck _ | exact m_program | exact m_choose _ | exact m_setObj _ _ | exact m_getObj _ | exact m_frozen _ | exact m_shape _ | exact m_newObj _ | exact m_store _ _ _ | exact m_load _ _ | exact m_halt _ | exact m_pure _)
    | with_reducible refine m_map ?_
    | with_reducible refine m_bind ?_ (fun _ => ?_)
    | with_reducible refine m_ite ?_ ?_
    | split
    | dsimp only)

theorem mx_enable (args : Array Value) : M P okB ((fun _ => do mark .enable; pure Extern.Race.none_ : Array Value → Sem Value) args) := by
  repeat' (first
    | with_reducible (first | assumption | exact m_asAddr _ | exact mk_read _ _ | exact mk_frozen _ | exact mk_at _ | exact m_asInt _ | exact m_mark trivial | exact m_intArith _ _ _ _ | exact m_samePointer _ _ | exact m_typeInfo _ | exact m_goPanic _ | exact m_unsupported _ | exact m_stuck _ | exact m_program | exact m_choose _ | exact m_setObj _ _ | exact m_getObj _ | exact m_frozen _ | exact m_shape _ | exact m_newObj _ | exact m_store _ _ _ | exact m_load _ _ | exact m_halt _ | exact m_pure _)
    | with_reducible refine m_map ?_
    | with_reducible refine m_bind ?_ (fun _ => ?_)
    | with_reducible refine m_ite ?_ ?_
    | split
    | dsimp only)

theorem mx_acquire (args : Array Value) : M P okB ((Extern.Race.marked .acquire : Array Value → Sem Value) args) := by
  unfold Extern.Race.marked
  repeat' (first
    | with_reducible (first | assumption | exact m_asAddr _ | exact mk_read _ _ | exact mk_frozen _ | exact mk_at _ | exact m_asInt _ | exact m_mark trivial | exact m_intArith _ _ _ _ | exact m_samePointer _ _ | exact m_typeInfo _ | exact m_goPanic _ | exact m_unsupported _ | exact m_stuck _ | exact m_program | exact m_choose _ | exact m_setObj _ _ | exact m_getObj _ | exact m_frozen _ | exact m_shape _ | exact m_newObj _ | exact m_store _ _ _ | exact m_load _ _ | exact m_halt _ | exact m_pure _)
    | with_reducible refine m_map ?_
    | with_reducible refine m_bind ?_ (fun _ => ?_)
    | with_reducible refine m_ite ?_ ?_
    | split
    | dsimp only)

theorem mx_rel (args : Array Value) : M P okB ((Extern.Race.marked .releaseMerge : Array Value → Sem Value) args) := by
  unfold Extern.Race.marked
  repeat' (first
    | with_reducible (first | assumption | exact m_asAddr _ | exact mk_read _ _ | exact mk_frozen _ | exact mk_at _ | exact m_asInt _ | exact m_mark trivial | exact m_intArith _ _ _ _ | exact m_samePointer _ _ | exact m_typeInfo _ | exact m_goPanic _ | exact m_unsupported _ | exact m_stuck _ | exact m_program | exact m_choose _ | exact m_setObj _ _ | exact m_getObj _ | exact m_frozen _ | exact m_shape _ | exact m_newObj _ | exact m_store _ _ _ | exact m_load _ _ | exact m_halt _ | exact m_pure _)
    | with_reducible refine m_map ?_
    | with_reducible refine m_bind ?_ (fun _ => ?_)
    | with_reducible refine m_ite ?_ ?_
    | split
    | dsimp only)

theorem mx_doSpin (args : Array Value) : M P okB ((Extern.Sync.nothing : Array Value → Sem Value) args) := by
  unfold Extern.Sync.nothing
  repeat' (first
    | with_reducible (first | assumption | exact m_asAddr _ | exact mk_read _ _ | exact mk_frozen _ | exact mk_at _ | exact m_asInt _ | exact m_mark trivial | exact m_intArith _ _ _ _ | exact m_samePointer _ _ | exact m_typeInfo _ | exact m_goPanic _ | exact m_unsupported _ | exact m_stuck _ | exact m_program | exact m_choose _ | exact m_setObj _ _ | exact m_getObj _ | exact m_frozen _ | exact m_shape _ | exact m_newObj _ | exact m_store _ _ _ | exact m_load _ _ | exact m_halt _ | exact m_pure _)
    | with_reducible refine m_map ?_
    | with_reducible refine m_bind ?_ (fun _ => ?_)
    | with_reducible refine m_ite ?_ ?_
    | split
    | dsimp only)

theorem mx_semacq (args : Array Value) : M P okB ((Extern.Sync.semacquire : Array Value → Sem Value) args) := by
  unfold Extern.Sync.semacquire Extern.Sync.count
  repeat' (first
    | with_reducible (first | assumption | exact m_asAddr _ | exact mk_read _ _ | exact mk_frozen _ | exact mk_at _ | exact m_asInt _ | exact m_mark trivial | exact m_intArith _ _ _ _ | exact m_samePointer _ _ | exact m_typeInfo _ | exact m_goPanic _ | exact m_unsupported _ | exact m_stuck _ | exact m_program | exact m_choose _ | exact m_setObj _ _ | exact m_getObj _ | exact m_frozen _ | exact m_shape _ | exact m_newObj _ | exact m_store _ _ _ | exact m_load _ _ | exact m_halt _ | exact m_pure _)
    | with_reducible refine m_map ?_
    | with_reducible refine m_bind ?_ (fun _ => ?_)
    | with_reducible refine m_ite ?_ ?_
    | split
    | dsimp only)

theorem mx_semrel (args : Array Value) : M P okB ((Extern.Sync.semrelease : Array Value → Sem Value) args) := by
  unfold Extern.Sync.semrelease Extern.Sync.count
  repeat' (first
    | with_reducible (first | assumption | exact m_asAddr _ | exact mk_read _ _ | exact mk_frozen _ | exact mk_at _ | exact m_asInt _ | exact m_mark trivial | exact m_intArith _ _ _ _ | exact m_samePointer _ _ | exact m_typeInfo _ | exact m_goPanic _ | exact m_unsupported _ | exact m_stuck _ | exact m_program | exact m_choose _ | exact m_setObj _ _ | exact m_getObj _ | exact m_frozen _ | exact m_shape _ | exact m_newObj _ | exact m_store _ _ _ | exact m_load _ _ | exact m_halt _ | exact m_pure _)
    | with_reducible refine m_map ?_
    | with_reducible refine m_bind ?_ (fun _ => ?_)
    | with_reducible refine m_ite ?_ ?_
    | split
    | dsimp only)

theorem mx_canSpin : ∀ args : Array Value, M P okB (Extern.Sync.canSpin args)
  | ⟨[]⟩ => trivial
  | ⟨[v]⟩ => by
    cases v
    case int k n =>
      show M P okB (if n ≥ 4 then pure (Value.bool false) else do pure (Value.bool ((← choose _) = 1)))
      exact m_ite (m_pure _) (m_bind (m_choose _) fun _ => m_pure _)
    all_goals exact trivial
  | ⟨_ :: _ :: _⟩ => trivial
theorem mx_die (g : String → Halt) : ∀ args : Array Value, M P okB (Extern.Sync.die g args)
  | ⟨[]⟩ => trivial
  | ⟨[v]⟩ => by
    cases v
    case string s =>
      show M P okB (match String.fromUTF8? s with | some m => .halt (g (m.replace "\n" "\n\t")) | none => unsupported _)
      split <;> trivial
    all_goals exact trivial
  | ⟨_ :: _ :: _⟩ => trivial
theorem mx_cas : ∀ args : Array Value, M P okB (Extern.Atomic.casT (.int .i32) args)
  | ⟨[]⟩ => trivial
  | ⟨[_]⟩ => trivial
  | ⟨[_, _]⟩ => trivial
  | ⟨_ :: _ :: _ :: _ :: _⟩ => trivial
  | ⟨[a, b, c]⟩ => by
    refine m_bind (s := asAddr a) (m_asAddr _) (fun _ => ?_)
    refine m_bind (mk_frozen _) (fun _ => ?_)
    repeat' (first
      | with_reducible (first | assumption | exact m_asAddr _ | exact mk_read _ _ | exact mk_frozen _ | exact m_asInt _ | exact m_mark trivial | exact m_intArith _ _ _ _ | exact m_samePointer _ _ | exact m_typeInfo _ | exact m_goPanic _ | exact m_unsupported _ | exact m_stuck _ | exact m_program | exact m_choose _ | exact m_setObj _ _ | exact m_getObj _ | exact m_frozen _ | exact m_shape _ | exact m_newObj _ | exact m_store _ _ _ | exact m_load _ _ | exact m_halt _ | exact m_pure _)
      | with_reducible refine m_map ?_
      | with_reducible refine m_bind ?_ (fun _ => ?_)
      | with_reducible refine m_ite ?_ ?_
      | split
      | dsimp only)
theorem mx_add : ∀ args : Array Value, M P okB (Extern.Atomic.update (Op.intArith .add) .i32 true args)
  | ⟨[]⟩ => trivial
  | ⟨[_]⟩ => trivial
  | ⟨_ :: _ :: _ :: _⟩ => trivial
  | ⟨[a, b]⟩ => by
    refine m_bind (s := asAddr a) (m_asAddr _) (fun _ => ?_)
    repeat' (first
      | with_reducible (first | assumption | exact m_asAddr _ | exact mk_read _ _ | exact mk_frozen _ | exact m_asInt _ | exact m_mark trivial | exact m_intArith _ _ _ _ | exact m_samePointer _ _ | exact m_typeInfo _ | exact m_goPanic _ | exact m_unsupported _ | exact m_stuck _ | exact m_program | exact m_choose _ | exact m_setObj _ _ | exact m_getObj _ | exact m_frozen _ | exact m_shape _ | exact m_newObj _ | exact m_store _ _ _ | exact m_load _ _ | exact m_halt _ | exact m_pure _)
      | with_reducible refine m_map ?_
      | with_reducible refine m_bind ?_ (fun _ => ?_)
      | with_reducible refine m_ite ?_ ?_
      | split
      | dsimp only)

theorem mx_nano (args : Array Value) : M P okB (Extern.OsHooks.nano args) := by
  unfold Extern.OsHooks.nano Extern.OsHooks.clock
  refine m_bind (m_bind (show M P okB (sys (.clock 1)) from ⟨fun w => ?_, fun r => trivial⟩) fun _ => ?_) (fun _ => trivial)
  · have e : ∃ n, (w.sys (.clock 1)).1 = .int n := ⟨_, rfl⟩
    obtain ⟨n, e⟩ := e
    rw [e]
    simp
  · split <;> trivial
end
noncomputable def xAt (f : Nat) : Option (Array Value → Sem Value) := match Try.prog.funcs[f]? with | some fn => Extern.find fn | none => none
theorem xf40 : xAt 40 = some (fun _ => do mark .disable; pure Extern.Race.none_ : Array Value → Sem Value) := by kernel_rfl
theorem xf41 : xAt 41 = some (Extern.Atomic.casT (.int .i32) : Array Value → Sem Value) := by kernel_rfl
theorem xf42 : xAt 42 = some (fun _ => do mark .enable; pure Extern.Race.none_ : Array Value → Sem Value) := by kernel_rfl
theorem xf43 : xAt 43 = some (Extern.Race.marked .acquire : Array Value → Sem Value) := by kernel_rfl
theorem xf45 : xAt 45 = some (Extern.Race.marked .releaseMerge : Array Value → Sem Value) := by kernel_rfl
theorem xf46 : xAt 46 = some (Extern.Atomic.update (Op.intArith .add) .i32 true : Array Value → Sem Value) := by kernel_rfl
theorem xf48 : xAt 48 = some (Extern.Sync.canSpin : Array Value → Sem Value) := by kernel_rfl
theorem xf49 : xAt 49 = some (Extern.Sync.nothing : Array Value → Sem Value) := by kernel_rfl
theorem xf50 : xAt 50 = some (Extern.Sync.die .throw : Array Value → Sem Value) := by kernel_rfl
theorem xf51 : xAt 51 = some (Extern.OsHooks.nano : Array Value → Sem Value) := by kernel_rfl
theorem xf52 : xAt 52 = some (Extern.Sync.semacquire : Array Value → Sem Value) := by kernel_rfl
theorem xf53 : xAt 53 = some (Extern.Sync.die .fatal : Array Value → Sem Value) := by kernel_rfl
theorem xf54 : xAt 54 = some (Extern.Sync.semrelease : Array Value → Sem Value) := by kernel_rfl
end Go.Proofs.Ythpanpedoeghoaa
set_option linter.unusedVariables false
namespace Go.Proofs.Ythpanpedoeghoaa
open Go.Conc Go.Proofs.Ythpanpedoeghoaa.Lift
def LX : List FuncId := [40, 41, 42, 43, 45, 46, 48, 49, 50, 51, 52, 53, 54]
theorem hereB : (LB.all fun f => LX.contains f || match Try.prog.funcs[f]? with | some fn => fn.body.isSome | none => false) = true := by kernel_rfl
theorem mx_of {f : FuncId} {fn : Func} {e e' : Array Value → Sem Value} (h : xAt f = some e') (hfn : Try.prog.funcs[f]? = some fn) (he : Extern.find fn = some e) (hm : ∀ args, M Try.prog okB (e' args)) (args : Array Value) : M Try.prog okB (e args) := by
  unfold xAt at h
  rw [hfn] at h
  simp only at h
  rw [h] at he
  injection he with he
  subst he
  exact hm args
theorem tightZB : Tight Try.prog ZB plainOp okB := by
  refine tight_of LB tightB_ (fun f h => by simpa [ZB] using h) (fun f h => ?_) (fun f h => ?_) trivial (fun f fn hf hfn hb => ⟨fun _ _ => trivial, fun e args he => ?_⟩)
  · have hm : f ∈ 3 :: LB := by simp [ZB] at h ⊢; rcases h with h | h <;> simp [h]
    have := (List.all_eq_true.1 baseB) f hm
    exact Option.isSome_iff_exists.1 this
  · have : f = 23 := by simpa [ZB] using h
    subst this
    exact ⟨by decide, by decide⟩
  · have hm : f ∈ LB := by simpa [ZB] using hf
    have h1 := (List.all_eq_true.1 hereB) f hm
    rw [hfn] at h1
    simp [hb] at h1
    simp [LX] at h1
    rcases h1 with rfl | rfl | rfl | rfl | rfl | rfl | rfl | rfl | rfl | rfl | rfl | rfl | rfl
    · exact mx_of xf40 hfn he mx_disable args
    · exact mx_of xf41 hfn he mx_cas args
    · exact mx_of xf42 hfn he mx_enable args
    · exact mx_of xf43 hfn he mx_acquire args
    · exact mx_of xf45 hfn he mx_rel args
    · exact mx_of xf46 hfn he mx_add args
    · exact mx_of xf48 hfn he mx_canSpin args
    · exact mx_of xf49 hfn he mx_doSpin args
    · exact mx_of xf50 hfn he (mx_die _) args
    · exact mx_of xf51 hfn he mx_nano args
    · exact mx_of xf52 hfn he mx_semacq args
    · exact mx_of xf53 hfn he (mx_die _) args
    · exact mx_of xf54 hfn he mx_semrel args
end Go.Proofs.Ythpanpedoeghoaa
