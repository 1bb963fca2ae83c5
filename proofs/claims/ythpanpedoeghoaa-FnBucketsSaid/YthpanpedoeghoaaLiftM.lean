/- The operations of the zone's functions are mild: what they say and ask. -/
import Derived.Test.YthpanpedoeghoaaLiftA
set_option linter.unnecessarySimpa false
set_option linter.unusedVariables false
set_option linter.unusedSimpArgs false
namespace Go.Proofs.Ythpanpedoeghoaa.Lift
open Go.Conc

section
variable {P : Program} {ok : Mark → Prop}
variable (P ok) in
abbrev M {α : Type} (s : Sem α) : Prop := Mild P ok (fun _ => True) s
theorem M.of {α : Type} {Q : α → Prop} {s : Sem α} (h : Mild P ok Q s) : M P ok s := h.mono fun _ _ => trivial

theorem m_pure {α : Type} (a : α) : M P ok (pure a : Sem α) := trivial
theorem m_bind {α β : Type} {s : Sem α} {f : α → Sem β} (h : M P ok s) (hf : ∀ a, M P ok (f a)) : M P ok (s >>= f) := Mild.bind h fun a _ => hf a
theorem m_map {α β : Type} {s : Sem α} {f : α → β} (h : M P ok s) : M P ok (Functor.map f s) := by
  rw [map_eq_pure_bind]; exact m_bind h fun _ => trivial
theorem m_ite {α : Type} {c : Prop} [Decidable c] {x y : Sem α} (h1 : M P ok x) (h2 : M P ok y) : M P ok (if c then x else y) := by split <;> assumption
theorem m_halt {α : Type} (h : Halt) : M P ok (.halt h : Sem α) := trivial
theorem m_forL {α β : Type} {f : α → β → Sem (ForInStep β)} (h : ∀ a b, M P ok (f a b)) : ∀ (l : List α) (b : β), M P ok (forIn l b f)
  | [], b => by rw [List.forIn_nil]; trivial
  | a :: l, b => by
    rw [List.forIn_cons]
    refine m_bind (h a b) fun r => ?_
    cases r with
    | done b => exact trivial
    | yield b => exact m_forL h l b
theorem m_forA {α β : Type} {f : α → β → Sem (ForInStep β)} (h : ∀ a b, M P ok (f a b)) (xs : Array α) (b : β) : M P ok (forIn xs b f) := by
  rw [← Array.forIn_toList]; exact m_forL h _ _
theorem m_forR {β : Type} {f : Nat → β → Sem (ForInStep β)} (h : ∀ a b, M P ok (f a b)) (r : Std.Legacy.Range) (b : β) : M P ok (forIn r b f) := by
  rw [Std.Legacy.Range.forIn_eq_forIn_range']; exact m_forL h _ _
theorem m_mapL {α β : Type} {f : α → Sem β} (h : ∀ a, M P ok (f a)) : ∀ (l : List α), M P ok (l.mapM f)
  | [] => by rw [List.mapM_nil]; trivial
  | a :: l => by
    rw [List.mapM_cons]
    exact m_bind (h a) fun _ => m_bind (m_mapL h l) fun _ => trivial
theorem m_mapA {α β : Type} {f : α → Sem β} (h : ∀ a, M P ok (f a)) (xs : Array α) : M P ok (xs.mapM f) := by
  rw [Array.mapM_eq_mapM_toList]; exact m_map (m_mapL h _)
theorem m_foldL {α β : Type} {f : β → α → Sem β} (h : ∀ b a, M P ok (f b a)) : ∀ (l : List α) (b : β), M P ok (l.foldlM f b)
  | [], b => by rw [List.foldlM_nil]; trivial
  | a :: l, b => by rw [List.foldlM_cons]; exact m_bind (h b a) fun _ => m_foldL h l _

-- Core/Lib
theorem m_load (a : Addr) (m : Mode) : M P ok (load a m) := fun _ => trivial
theorem m_store (a : Addr) (v : Value) (m : Mode) : M P ok (store a v m) := trivial
theorem m_newObj (o : Obj) : M P ok (newObj o) := fun _ => trivial
theorem m_shape (r : Nat) : M P ok (shape r) := fun _ => trivial
theorem m_freeze (a : Addr) (n : Nat) : M P ok (freeze a n) := trivial
theorem m_frozen (a : Addr) : M P ok (frozen a) := fun _ => trivial
theorem m_getObj (r : Nat) : M P ok (getObj r) := fun _ => trivial
theorem m_setObj (r : Nat) (o : Obj) : M P ok (setObj r o) := trivial
theorem m_choose (q : Question) : M P ok (choose q) := fun _ => trivial
theorem m_program : M P ok program := trivial
theorem m_askRoom (h : ok .noRoom) (n : Nat) : M P ok (askRoom n) := by unfold askRoom; split; exact ⟨h, trivial⟩; trivial
theorem m_stuck {α : Type} (s : String) : M P ok (stuck s : Sem α) := trivial
theorem m_unsupported {α : Type} (u : Unsupported) : M P ok (unsupported u : Sem α) := trivial
theorem m_goPanic {α : Type} (v : Value) : M P ok (goPanic v : Sem α) := trivial

theorem m_viewAt (r : Nat) : M P ok (viewAt r) := by
  unfold viewAt
  repeat' (first
    | with_reducible (first | assumption | exact m_goPanic _ | exact m_unsupported _ | exact m_stuck _ | exact m_program | exact m_choose _ | exact m_setObj _ _ | exact m_getObj _ | exact m_frozen _ | exact m_freeze _ _ | exact m_shape _ | exact m_newObj _ | exact m_store _ _ _ | exact m_load _ _ | exact m_halt _ | exact m_pure _)
    | with_reducible refine m_map ?_
    | with_reducible refine m_bind ?_ (fun _ => ?_)
    | with_reducible refine m_ite ?_ ?_
    | refine m_forA (fun _ _ => ?_) _ _
    | refine m_forL (fun _ _ => ?_) _ _
    | refine m_forR (fun _ _ => ?_) _ _
    | refine m_mapA (fun _ => ?_) _
    | refine m_foldL (fun _ _ => ?_) _ _
    | split
    | dsimp only)

theorem m_numberAt (r : Nat) : M P ok (numberAt r) := by
  unfold numberAt
  repeat' (first
    | with_reducible (first | assumption | exact m_viewAt _ | exact m_goPanic _ | exact m_unsupported _ | exact m_stuck _ | exact m_program | exact m_choose _ | exact m_setObj _ _ | exact m_getObj _ | exact m_frozen _ | exact m_freeze _ _ | exact m_shape _ | exact m_newObj _ | exact m_store _ _ _ | exact m_load _ _ | exact m_halt _ | exact m_pure _)
    | with_reducible refine m_map ?_
    | with_reducible refine m_bind ?_ (fun _ => ?_)
    | with_reducible refine m_ite ?_ ?_
    | refine m_forA (fun _ _ => ?_) _ _
    | refine m_forL (fun _ _ => ?_) _ _
    | refine m_forR (fun _ _ => ?_) _ _
    | refine m_mapA (fun _ => ?_) _
    | refine m_foldL (fun _ _ => ?_) _ _
    | split
    | dsimp only)

theorem m_cellsIn (r : Nat) : M P ok (cellsIn r) := by
  unfold cellsIn
  repeat' (first
    | with_reducible (first | assumption | exact m_numberAt _ | exact m_viewAt _ | exact m_goPanic _ | exact m_unsupported _ | exact m_stuck _ | exact m_program | exact m_choose _ | exact m_setObj _ _ | exact m_getObj _ | exact m_frozen _ | exact m_freeze _ _ | exact m_shape _ | exact m_newObj _ | exact m_store _ _ _ | exact m_load _ _ | exact m_halt _ | exact m_pure _)
    | with_reducible refine m_map ?_
    | with_reducible refine m_bind ?_ (fun _ => ?_)
    | with_reducible refine m_ite ?_ ?_
    | refine m_forA (fun _ _ => ?_) _ _
    | refine m_forL (fun _ _ => ?_) _ _
    | refine m_forR (fun _ _ => ?_) _ _
    | refine m_mapA (fun _ => ?_) _
    | refine m_foldL (fun _ _ => ?_) _ _
    | split
    | dsimp only)

theorem m_asNumber (a : Addr) (l : Bool) : M P ok (asNumber a l) := by
  unfold asNumber
  repeat' (first
    | with_reducible (first | assumption | exact m_cellsIn _ | exact m_numberAt _ | exact m_viewAt _ | exact m_goPanic _ | exact m_unsupported _ | exact m_stuck _ | exact m_program | exact m_choose _ | exact m_setObj _ _ | exact m_getObj _ | exact m_frozen _ | exact m_freeze _ _ | exact m_shape _ | exact m_newObj _ | exact m_store _ _ _ | exact m_load _ _ | exact m_halt _ | exact m_pure _)
    | with_reducible refine m_map ?_
    | with_reducible refine m_bind ?_ (fun _ => ?_)
    | with_reducible refine m_ite ?_ ?_
    | refine m_forA (fun _ _ => ?_) _ _
    | refine m_forL (fun _ _ => ?_) _ _
    | refine m_forR (fun _ _ => ?_) _ _
    | refine m_mapA (fun _ => ?_) _
    | refine m_foldL (fun _ _ => ?_) _ _
    | split
    | dsimp only)

theorem m_behindNumber (a : Addr) : M P ok (behindNumber a) := by
  unfold behindNumber
  repeat' (first
    | with_reducible (first | assumption | exact m_asNumber _ _ | exact m_cellsIn _ | exact m_numberAt _ | exact m_viewAt _ | exact m_goPanic _ | exact m_unsupported _ | exact m_stuck _ | exact m_program | exact m_choose _ | exact m_setObj _ _ | exact m_getObj _ | exact m_frozen _ | exact m_freeze _ _ | exact m_shape _ | exact m_newObj _ | exact m_store _ _ _ | exact m_load _ _ | exact m_halt _ | exact m_pure _)
    | with_reducible refine m_map ?_
    | with_reducible refine m_bind ?_ (fun _ => ?_)
    | with_reducible refine m_ite ?_ ?_
    | refine m_forA (fun _ _ => ?_) _ _
    | refine m_forL (fun _ _ => ?_) _ _
    | refine m_forR (fun _ _ => ?_) _ _
    | refine m_mapA (fun _ => ?_) _
    | refine m_foldL (fun _ _ => ?_) _ _
    | split
    | dsimp only)

theorem m_backFromNumber (a : Addr) : M P ok (backFromNumber a) := by
  unfold backFromNumber
  repeat' (first
    | with_reducible (first | assumption | exact m_behindNumber _ | exact m_asNumber _ _ | exact m_cellsIn _ | exact m_numberAt _ | exact m_viewAt _ | exact m_goPanic _ | exact m_unsupported _ | exact m_stuck _ | exact m_program | exact m_choose _ | exact m_setObj _ _ | exact m_getObj _ | exact m_frozen _ | exact m_freeze _ _ | exact m_shape _ | exact m_newObj _ | exact m_store _ _ _ | exact m_load _ _ | exact m_halt _ | exact m_pure _)
    | with_reducible refine m_map ?_
    | with_reducible refine m_bind ?_ (fun _ => ?_)
    | with_reducible refine m_ite ?_ ?_
    | refine m_forA (fun _ _ => ?_) _ _
    | refine m_forL (fun _ _ => ?_) _ _
    | refine m_forR (fun _ _ => ?_) _ _
    | refine m_mapA (fun _ => ?_) _
    | refine m_foldL (fun _ _ => ?_) _ _
    | split
    | dsimp only)

theorem m_noView (a : Addr) : M P ok (noView a) := by
  unfold noView
  repeat' (first
    | with_reducible (first | assumption | exact m_backFromNumber _ | exact m_behindNumber _ | exact m_asNumber _ _ | exact m_cellsIn _ | exact m_numberAt _ | exact m_viewAt _ | exact m_goPanic _ | exact m_unsupported _ | exact m_stuck _ | exact m_program | exact m_choose _ | exact m_setObj _ _ | exact m_getObj _ | exact m_frozen _ | exact m_freeze _ _ | exact m_shape _ | exact m_newObj _ | exact m_store _ _ _ | exact m_load _ _ | exact m_halt _ | exact m_pure _)
    | with_reducible refine m_map ?_
    | with_reducible refine m_bind ?_ (fun _ => ?_)
    | with_reducible refine m_ite ?_ ?_
    | refine m_forA (fun _ _ => ?_) _ _
    | refine m_forL (fun _ _ => ?_) _ _
    | refine m_forR (fun _ _ => ?_) _ _
    | refine m_mapA (fun _ => ?_) _
    | refine m_foldL (fun _ _ => ?_) _ _
    | split
    | dsimp only)

theorem m_markStringish (a : Addr) : M P ok (markStringish a) := by
  unfold markStringish
  repeat' (first
    | with_reducible (first | assumption | exact m_noView _ | exact m_backFromNumber _ | exact m_behindNumber _ | exact m_asNumber _ _ | exact m_cellsIn _ | exact m_numberAt _ | exact m_viewAt _ | exact m_goPanic _ | exact m_unsupported _ | exact m_stuck _ | exact m_program | exact m_choose _ | exact m_setObj _ _ | exact m_getObj _ | exact m_frozen _ | exact m_freeze _ _ | exact m_shape _ | exact m_newObj _ | exact m_store _ _ _ | exact m_load _ _ | exact m_halt _ | exact m_pure _)
    | with_reducible refine m_map ?_
    | with_reducible refine m_bind ?_ (fun _ => ?_)
    | with_reducible refine m_ite ?_ ?_
    | refine m_forA (fun _ _ => ?_) _ _
    | refine m_forL (fun _ _ => ?_) _ _
    | refine m_forR (fun _ _ => ?_) _ _
    | refine m_mapA (fun _ => ?_) _
    | refine m_foldL (fun _ _ => ?_) _ _
    | split
    | dsimp only)

theorem m_stringish (a : Addr) : M P ok (stringish a) := by
  unfold stringish
  repeat' (first
    | with_reducible (first | assumption | exact m_markStringish _ | exact m_noView _ | exact m_backFromNumber _ | exact m_behindNumber _ | exact m_asNumber _ _ | exact m_cellsIn _ | exact m_numberAt _ | exact m_viewAt _ | exact m_goPanic _ | exact m_unsupported _ | exact m_stuck _ | exact m_program | exact m_choose _ | exact m_setObj _ _ | exact m_getObj _ | exact m_frozen _ | exact m_freeze _ _ | exact m_shape _ | exact m_newObj _ | exact m_store _ _ _ | exact m_load _ _ | exact m_halt _ | exact m_pure _)
    | with_reducible refine m_map ?_
    | with_reducible refine m_bind ?_ (fun _ => ?_)
    | with_reducible refine m_ite ?_ ?_
    | refine m_forA (fun _ _ => ?_) _ _
    | refine m_forL (fun _ _ => ?_) _ _
    | refine m_forR (fun _ _ => ?_) _ _
    | refine m_mapA (fun _ => ?_) _
    | refine m_foldL (fun _ _ => ?_) _ _
    | split
    | dsimp only)

theorem m_mayBeOne (a b : Addr) : M P ok (mayBeOne a b) := by
  unfold mayBeOne
  repeat' (first
    | with_reducible (first | assumption | exact m_stringish _ | exact m_markStringish _ | exact m_noView _ | exact m_backFromNumber _ | exact m_behindNumber _ | exact m_asNumber _ _ | exact m_cellsIn _ | exact m_numberAt _ | exact m_viewAt _ | exact m_goPanic _ | exact m_unsupported _ | exact m_stuck _ | exact m_program | exact m_choose _ | exact m_setObj _ _ | exact m_getObj _ | exact m_frozen _ | exact m_freeze _ _ | exact m_shape _ | exact m_newObj _ | exact m_store _ _ _ | exact m_load _ _ | exact m_halt _ | exact m_pure _)
    | with_reducible refine m_map ?_
    | with_reducible refine m_bind ?_ (fun _ => ?_)
    | with_reducible refine m_ite ?_ ?_
    | refine m_forA (fun _ _ => ?_) _ _
    | refine m_forL (fun _ _ => ?_) _ _
    | refine m_forR (fun _ _ => ?_) _ _
    | refine m_mapA (fun _ => ?_) _
    | refine m_foldL (fun _ _ => ?_) _ _
    | split
    | dsimp only)

theorem m_sameAddr (a b : Addr) : M P ok (sameAddr a b) := by
  unfold sameAddr
  repeat' (first
    | with_reducible (first | assumption | exact m_mayBeOne _ _ | exact m_stringish _ | exact m_markStringish _ | exact m_noView _ | exact m_backFromNumber _ | exact m_behindNumber _ | exact m_asNumber _ _ | exact m_cellsIn _ | exact m_numberAt _ | exact m_viewAt _ | exact m_goPanic _ | exact m_unsupported _ | exact m_stuck _ | exact m_program | exact m_choose _ | exact m_setObj _ _ | exact m_getObj _ | exact m_frozen _ | exact m_freeze _ _ | exact m_shape _ | exact m_newObj _ | exact m_store _ _ _ | exact m_load _ _ | exact m_halt _ | exact m_pure _)
    | with_reducible refine m_map ?_
    | with_reducible refine m_bind ?_ (fun _ => ?_)
    | with_reducible refine m_ite ?_ ?_
    | refine m_forA (fun _ _ => ?_) _ _
    | refine m_forL (fun _ _ => ?_) _ _
    | refine m_forR (fun _ _ => ?_) _ _
    | refine m_mapA (fun _ => ?_) _
    | refine m_foldL (fun _ _ => ?_) _ _
    | split
    | dsimp only)

theorem m_samePointer (a b : Option Addr) : M P ok (samePointer a b) := by
  unfold samePointer
  repeat' (first
    | with_reducible (first | assumption | exact m_sameAddr _ _ | exact m_mayBeOne _ _ | exact m_stringish _ | exact m_markStringish _ | exact m_noView _ | exact m_backFromNumber _ | exact m_behindNumber _ | exact m_asNumber _ _ | exact m_cellsIn _ | exact m_numberAt _ | exact m_viewAt _ | exact m_goPanic _ | exact m_unsupported _ | exact m_stuck _ | exact m_program | exact m_choose _ | exact m_setObj _ _ | exact m_getObj _ | exact m_frozen _ | exact m_freeze _ _ | exact m_shape _ | exact m_newObj _ | exact m_store _ _ _ | exact m_load _ _ | exact m_halt _ | exact m_pure _)
    | with_reducible refine m_map ?_
    | with_reducible refine m_bind ?_ (fun _ => ?_)
    | with_reducible refine m_ite ?_ ?_
    | refine m_forA (fun _ _ => ?_) _ _
    | refine m_forL (fun _ _ => ?_) _ _
    | refine m_forR (fun _ _ => ?_) _ _
    | refine m_mapA (fun _ => ?_) _
    | refine m_foldL (fun _ _ => ?_) _ _
    | split
    | dsimp only)

theorem m_typeInfo (t : TypeId) : M P ok (typeInfo t) := by
  unfold typeInfo
  repeat' (first
    | with_reducible (first | assumption | exact m_samePointer _ _ | exact m_sameAddr _ _ | exact m_mayBeOne _ _ | exact m_stringish _ | exact m_markStringish _ | exact m_noView _ | exact m_backFromNumber _ | exact m_behindNumber _ | exact m_asNumber _ _ | exact m_cellsIn _ | exact m_numberAt _ | exact m_viewAt _ | exact m_goPanic _ | exact m_unsupported _ | exact m_stuck _ | exact m_program | exact m_choose _ | exact m_setObj _ _ | exact m_getObj _ | exact m_frozen _ | exact m_freeze _ _ | exact m_shape _ | exact m_newObj _ | exact m_store _ _ _ | exact m_load _ _ | exact m_halt _ | exact m_pure _)
    | with_reducible refine m_map ?_
    | with_reducible refine m_bind ?_ (fun _ => ?_)
    | with_reducible refine m_ite ?_ ?_
    | refine m_forA (fun _ _ => ?_) _ _
    | refine m_forL (fun _ _ => ?_) _ _
    | refine m_forR (fun _ _ => ?_) _ _
    | refine m_mapA (fun _ => ?_) _
    | refine m_foldL (fun _ _ => ?_) _ _
    | split
    | dsimp only)

theorem m_underlying (t : TypeId) : M P ok (underlying t) := by
  unfold underlying
  repeat' (first
    | with_reducible (first | assumption | exact m_typeInfo _ | exact m_samePointer _ _ | exact m_sameAddr _ _ | exact m_mayBeOne _ _ | exact m_stringish _ | exact m_markStringish _ | exact m_noView _ | exact m_backFromNumber _ | exact m_behindNumber _ | exact m_asNumber _ _ | exact m_cellsIn _ | exact m_numberAt _ | exact m_viewAt _ | exact m_goPanic _ | exact m_unsupported _ | exact m_stuck _ | exact m_program | exact m_choose _ | exact m_setObj _ _ | exact m_getObj _ | exact m_frozen _ | exact m_freeze _ _ | exact m_shape _ | exact m_newObj _ | exact m_store _ _ _ | exact m_load _ _ | exact m_halt _ | exact m_pure _)
    | with_reducible refine m_map ?_
    | with_reducible refine m_bind ?_ (fun _ => ?_)
    | with_reducible refine m_ite ?_ ?_
    | refine m_forA (fun _ _ => ?_) _ _
    | refine m_forL (fun _ _ => ?_) _ _
    | refine m_forR (fun _ _ => ?_) _ _
    | refine m_mapA (fun _ => ?_) _
    | refine m_foldL (fun _ _ => ?_) _ _
    | split
    | dsimp only)

theorem m_cutType (n : String) : M P ok (cutType n) := by
  unfold cutType
  repeat' (first
    | with_reducible (first | assumption | exact m_underlying _ | exact m_typeInfo _ | exact m_samePointer _ _ | exact m_sameAddr _ _ | exact m_mayBeOne _ _ | exact m_stringish _ | exact m_markStringish _ | exact m_noView _ | exact m_backFromNumber _ | exact m_behindNumber _ | exact m_asNumber _ _ | exact m_cellsIn _ | exact m_numberAt _ | exact m_viewAt _ | exact m_goPanic _ | exact m_unsupported _ | exact m_stuck _ | exact m_program | exact m_choose _ | exact m_setObj _ _ | exact m_getObj _ | exact m_frozen _ | exact m_freeze _ _ | exact m_shape _ | exact m_newObj _ | exact m_store _ _ _ | exact m_load _ _ | exact m_halt _ | exact m_pure _)
    | with_reducible refine m_map ?_
    | with_reducible refine m_bind ?_ (fun _ => ?_)
    | with_reducible refine m_ite ?_ ?_
    | refine m_forA (fun _ _ => ?_) _ _
    | refine m_forL (fun _ _ => ?_) _ _
    | refine m_forR (fun _ _ => ?_) _ _
    | refine m_mapA (fun _ => ?_) _
    | refine m_foldL (fun _ _ => ?_) _ _
    | split
    | dsimp only)

theorem m_globalAddr (n : String) : M P ok (globalAddr n) := by
  unfold globalAddr
  repeat' (first
    | with_reducible (first | assumption | exact m_cutType _ | exact m_underlying _ | exact m_typeInfo _ | exact m_samePointer _ _ | exact m_sameAddr _ _ | exact m_mayBeOne _ _ | exact m_stringish _ | exact m_markStringish _ | exact m_noView _ | exact m_backFromNumber _ | exact m_behindNumber _ | exact m_asNumber _ _ | exact m_cellsIn _ | exact m_numberAt _ | exact m_viewAt _ | exact m_goPanic _ | exact m_unsupported _ | exact m_stuck _ | exact m_program | exact m_choose _ | exact m_setObj _ _ | exact m_getObj _ | exact m_frozen _ | exact m_freeze _ _ | exact m_shape _ | exact m_newObj _ | exact m_store _ _ _ | exact m_load _ _ | exact m_halt _ | exact m_pure _)
    | with_reducible refine m_map ?_
    | with_reducible refine m_bind ?_ (fun _ => ?_)
    | with_reducible refine m_ite ?_ ?_
    | refine m_forA (fun _ _ => ?_) _ _
    | refine m_forL (fun _ _ => ?_) _ _
    | refine m_forR (fun _ _ => ?_) _ _
    | refine m_mapA (fun _ => ?_) _
    | refine m_foldL (fun _ _ => ?_) _ _
    | split
    | dsimp only)

theorem m_typeStr (t : TypeId) : M P ok (typeStr t) := by
  unfold typeStr
  repeat' (first
    | with_reducible (first | assumption | exact m_globalAddr _ | exact m_cutType _ | exact m_underlying _ | exact m_typeInfo _ | exact m_samePointer _ _ | exact m_sameAddr _ _ | exact m_mayBeOne _ _ | exact m_stringish _ | exact m_markStringish _ | exact m_noView _ | exact m_backFromNumber _ | exact m_behindNumber _ | exact m_asNumber _ _ | exact m_cellsIn _ | exact m_numberAt _ | exact m_viewAt _ | exact m_goPanic _ | exact m_unsupported _ | exact m_stuck _ | exact m_program | exact m_choose _ | exact m_setObj _ _ | exact m_getObj _ | exact m_frozen _ | exact m_freeze _ _ | exact m_shape _ | exact m_newObj _ | exact m_store _ _ _ | exact m_load _ _ | exact m_halt _ | exact m_pure _)
    | with_reducible refine m_map ?_
    | with_reducible refine m_bind ?_ (fun _ => ?_)
    | with_reducible refine m_ite ?_ ?_
    | refine m_forA (fun _ _ => ?_) _ _
    | refine m_forL (fun _ _ => ?_) _ _
    | refine m_forR (fun _ _ => ?_) _ _
    | refine m_mapA (fun _ => ?_) _
    | refine m_foldL (fun _ _ => ?_) _ _
    | split
    | dsimp only)

theorem m_zeroValue (t : TypeId) : M P ok (zeroValue t) := by
  unfold zeroValue
  repeat' (first
    | with_reducible (first | assumption | exact m_typeStr _ | exact m_globalAddr _ | exact m_cutType _ | exact m_underlying _ | exact m_typeInfo _ | exact m_samePointer _ _ | exact m_sameAddr _ _ | exact m_mayBeOne _ _ | exact m_stringish _ | exact m_markStringish _ | exact m_noView _ | exact m_backFromNumber _ | exact m_behindNumber _ | exact m_asNumber _ _ | exact m_cellsIn _ | exact m_numberAt _ | exact m_viewAt _ | exact m_goPanic _ | exact m_unsupported _ | exact m_stuck _ | exact m_program | exact m_choose _ | exact m_setObj _ _ | exact m_getObj _ | exact m_frozen _ | exact m_freeze _ _ | exact m_shape _ | exact m_newObj _ | exact m_store _ _ _ | exact m_load _ _ | exact m_halt _ | exact m_pure _)
    | with_reducible refine m_map ?_
    | with_reducible refine m_bind ?_ (fun _ => ?_)
    | with_reducible refine m_ite ?_ ?_
    | refine m_forA (fun _ _ => ?_) _ _
    | refine m_forL (fun _ _ => ?_) _ _
    | refine m_forR (fun _ _ => ?_) _ _
    | refine m_mapA (fun _ => ?_) _
    | refine m_foldL (fun _ _ => ?_) _ _
    | split
    | dsimp only)

theorem m_sizeOf (t : TypeId) : M P ok (Go.sizeOf t) := by
  unfold Go.sizeOf
  repeat' (first
    | with_reducible (first | assumption | exact m_zeroValue _ | exact m_typeStr _ | exact m_globalAddr _ | exact m_cutType _ | exact m_underlying _ | exact m_typeInfo _ | exact m_samePointer _ _ | exact m_sameAddr _ _ | exact m_mayBeOne _ _ | exact m_stringish _ | exact m_markStringish _ | exact m_noView _ | exact m_backFromNumber _ | exact m_behindNumber _ | exact m_asNumber _ _ | exact m_cellsIn _ | exact m_numberAt _ | exact m_viewAt _ | exact m_goPanic _ | exact m_unsupported _ | exact m_stuck _ | exact m_program | exact m_choose _ | exact m_setObj _ _ | exact m_getObj _ | exact m_frozen _ | exact m_freeze _ _ | exact m_shape _ | exact m_newObj _ | exact m_store _ _ _ | exact m_load _ _ | exact m_halt _ | exact m_pure _)
    | with_reducible refine m_map ?_
    | with_reducible refine m_bind ?_ (fun _ => ?_)
    | with_reducible refine m_ite ?_ ?_
    | refine m_forA (fun _ _ => ?_) _ _
    | refine m_forL (fun _ _ => ?_) _ _
    | refine m_forR (fun _ _ => ?_) _ _
    | refine m_mapA (fun _ => ?_) _
    | refine m_foldL (fun _ _ => ?_) _ _
    | split
    | dsimp only)

theorem m_isAgg (t : TypeId) : M P ok (isAgg t) := by
  unfold isAgg
  repeat' (first
    | with_reducible (first | assumption | exact m_sizeOf _ | exact m_zeroValue _ | exact m_typeStr _ | exact m_globalAddr _ | exact m_cutType _ | exact m_underlying _ | exact m_typeInfo _ | exact m_samePointer _ _ | exact m_sameAddr _ _ | exact m_mayBeOne _ _ | exact m_stringish _ | exact m_markStringish _ | exact m_noView _ | exact m_backFromNumber _ | exact m_behindNumber _ | exact m_asNumber _ _ | exact m_cellsIn _ | exact m_numberAt _ | exact m_viewAt _ | exact m_goPanic _ | exact m_unsupported _ | exact m_stuck _ | exact m_program | exact m_choose _ | exact m_setObj _ _ | exact m_getObj _ | exact m_frozen _ | exact m_freeze _ _ | exact m_shape _ | exact m_newObj _ | exact m_store _ _ _ | exact m_load _ _ | exact m_halt _ | exact m_pure _)
    | with_reducible refine m_map ?_
    | with_reducible refine m_bind ?_ (fun _ => ?_)
    | with_reducible refine m_ite ?_ ?_
    | refine m_forA (fun _ _ => ?_) _ _
    | refine m_forL (fun _ _ => ?_) _ _
    | refine m_forR (fun _ _ => ?_) _ _
    | refine m_mapA (fun _ => ?_) _
    | refine m_foldL (fun _ _ => ?_) _ _
    | split
    | dsimp only)

theorem m_loadCellsFrom (a : Addr) : ∀ (n i : Nat) (acc : Array Value), M P ok (loadCellsFrom a i n acc)
  | 0, _, _ => trivial
  | n + 1, i, acc => by
    unfold loadCellsFrom
    exact m_bind (m_load _ _) fun v => m_loadCellsFrom a n (i + 1) _
theorem m_loadCells (a : Addr) (n : Nat) : M P ok (loadCells a n) := m_loadCellsFrom a n 0 _
theorem m_storeCells (a : Addr) : ∀ (vs : List Value) (i : Nat), M P ok (storeCells a vs i)
  | [], _ => by unfold storeCells; trivial
  | v :: r, i => by
    unfold storeCells
    exact m_bind (m_store _ _ _) fun _ => m_storeCells a r (i + 1)

theorem m_loadVar (t : TypeId) (a : Addr) : M P ok (loadVar t a) := by
  unfold loadVar
  repeat' (first
    | with_reducible (first | assumption | exact m_storeCells _ _ _ | exact m_loadCells _ _ | exact m_isAgg _ | exact m_sizeOf _ | exact m_zeroValue _ | exact m_typeStr _ | exact m_globalAddr _ | exact m_cutType _ | exact m_underlying _ | exact m_typeInfo _ | exact m_samePointer _ _ | exact m_sameAddr _ _ | exact m_mayBeOne _ _ | exact m_stringish _ | exact m_markStringish _ | exact m_noView _ | exact m_backFromNumber _ | exact m_behindNumber _ | exact m_asNumber _ _ | exact m_cellsIn _ | exact m_numberAt _ | exact m_viewAt _ | exact m_goPanic _ | exact m_unsupported _ | exact m_stuck _ | exact m_program | exact m_choose _ | exact m_setObj _ _ | exact m_getObj _ | exact m_frozen _ | exact m_freeze _ _ | exact m_shape _ | exact m_newObj _ | exact m_store _ _ _ | exact m_load _ _ | exact m_halt _ | exact m_pure _)
    | with_reducible refine m_map ?_
    | with_reducible refine m_bind ?_ (fun _ => ?_)
    | with_reducible refine m_ite ?_ ?_
    | refine m_forA (fun _ _ => ?_) _ _
    | refine m_forL (fun _ _ => ?_) _ _
    | refine m_forR (fun _ _ => ?_) _ _
    | refine m_mapA (fun _ => ?_) _
    | refine m_foldL (fun _ _ => ?_) _ _
    | split
    | dsimp only)

theorem m_storeVar (t : TypeId) (a : Addr) (v : Value) : M P ok (storeVar t a v) := by
  unfold storeVar
  repeat' (first
    | with_reducible (first | assumption | exact m_loadVar _ _ | exact m_storeCells _ _ _ | exact m_loadCells _ _ | exact m_isAgg _ | exact m_sizeOf _ | exact m_zeroValue _ | exact m_typeStr _ | exact m_globalAddr _ | exact m_cutType _ | exact m_underlying _ | exact m_typeInfo _ | exact m_samePointer _ _ | exact m_sameAddr _ _ | exact m_mayBeOne _ _ | exact m_stringish _ | exact m_markStringish _ | exact m_noView _ | exact m_backFromNumber _ | exact m_behindNumber _ | exact m_asNumber _ _ | exact m_cellsIn _ | exact m_numberAt _ | exact m_viewAt _ | exact m_goPanic _ | exact m_unsupported _ | exact m_stuck _ | exact m_program | exact m_choose _ | exact m_setObj _ _ | exact m_getObj _ | exact m_frozen _ | exact m_freeze _ _ | exact m_shape _ | exact m_newObj _ | exact m_store _ _ _ | exact m_load _ _ | exact m_halt _ | exact m_pure _)
    | with_reducible refine m_map ?_
    | with_reducible refine m_bind ?_ (fun _ => ?_)
    | with_reducible refine m_ite ?_ ?_
    | refine m_forA (fun _ _ => ?_) _ _
    | refine m_forL (fun _ _ => ?_) _ _
    | refine m_forR (fun _ _ => ?_) _ _
    | refine m_mapA (fun _ => ?_) _
    | refine m_foldL (fun _ _ => ?_) _ _
    | split
    | dsimp only)

theorem m_newRow (t : TypeId) (c : Array Value) : M P ok (newRow t c) := by
  unfold newRow
  repeat' (first
    | with_reducible (first | assumption | exact m_storeVar _ _ _ | exact m_loadVar _ _ | exact m_storeCells _ _ _ | exact m_loadCells _ _ | exact m_isAgg _ | exact m_sizeOf _ | exact m_zeroValue _ | exact m_typeStr _ | exact m_globalAddr _ | exact m_cutType _ | exact m_underlying _ | exact m_typeInfo _ | exact m_samePointer _ _ | exact m_sameAddr _ _ | exact m_mayBeOne _ _ | exact m_stringish _ | exact m_markStringish _ | exact m_noView _ | exact m_backFromNumber _ | exact m_behindNumber _ | exact m_asNumber _ _ | exact m_cellsIn _ | exact m_numberAt _ | exact m_viewAt _ | exact m_goPanic _ | exact m_unsupported _ | exact m_stuck _ | exact m_program | exact m_choose _ | exact m_setObj _ _ | exact m_getObj _ | exact m_frozen _ | exact m_freeze _ _ | exact m_shape _ | exact m_newObj _ | exact m_store _ _ _ | exact m_load _ _ | exact m_halt _ | exact m_pure _)
    | with_reducible refine m_map ?_
    | with_reducible refine m_bind ?_ (fun _ => ?_)
    | with_reducible refine m_ite ?_ ?_
    | refine m_forA (fun _ _ => ?_) _ _
    | refine m_forL (fun _ _ => ?_) _ _
    | refine m_forR (fun _ _ => ?_) _ _
    | refine m_mapA (fun _ => ?_) _
    | refine m_foldL (fun _ _ => ?_) _ _
    | split
    | dsimp only)

theorem m_newVar (t : TypeId) (v : Value) : M P ok (newVar t v) := by
  unfold newVar
  repeat' (first
    | with_reducible (first | assumption | exact m_newRow _ _ | exact m_storeVar _ _ _ | exact m_loadVar _ _ | exact m_storeCells _ _ _ | exact m_loadCells _ _ | exact m_isAgg _ | exact m_sizeOf _ | exact m_zeroValue _ | exact m_typeStr _ | exact m_globalAddr _ | exact m_cutType _ | exact m_underlying _ | exact m_typeInfo _ | exact m_samePointer _ _ | exact m_sameAddr _ _ | exact m_mayBeOne _ _ | exact m_stringish _ | exact m_markStringish _ | exact m_noView _ | exact m_backFromNumber _ | exact m_behindNumber _ | exact m_asNumber _ _ | exact m_cellsIn _ | exact m_numberAt _ | exact m_viewAt _ | exact m_goPanic _ | exact m_unsupported _ | exact m_stuck _ | exact m_program | exact m_choose _ | exact m_setObj _ _ | exact m_getObj _ | exact m_frozen _ | exact m_freeze _ _ | exact m_shape _ | exact m_newObj _ | exact m_store _ _ _ | exact m_load _ _ | exact m_halt _ | exact m_pure _)
    | with_reducible refine m_map ?_
    | with_reducible refine m_bind ?_ (fun _ => ?_)
    | with_reducible refine m_ite ?_ ?_
    | refine m_forA (fun _ _ => ?_) _ _
    | refine m_forL (fun _ _ => ?_) _ _
    | refine m_forR (fun _ _ => ?_) _ _
    | refine m_mapA (fun _ => ?_) _
    | refine m_foldL (fun _ _ => ?_) _ _
    | split
    | dsimp only)

theorem m_elemOf (t : TypeId) : M P ok (elemOf t) := by
  unfold elemOf
  repeat' (first
    | with_reducible (first | assumption | exact m_newVar _ _ | exact m_newRow _ _ | exact m_storeVar _ _ _ | exact m_loadVar _ _ | exact m_storeCells _ _ _ | exact m_loadCells _ _ | exact m_isAgg _ | exact m_sizeOf _ | exact m_zeroValue _ | exact m_typeStr _ | exact m_globalAddr _ | exact m_cutType _ | exact m_underlying _ | exact m_typeInfo _ | exact m_samePointer _ _ | exact m_sameAddr _ _ | exact m_mayBeOne _ _ | exact m_stringish _ | exact m_markStringish _ | exact m_noView _ | exact m_backFromNumber _ | exact m_behindNumber _ | exact m_asNumber _ _ | exact m_cellsIn _ | exact m_numberAt _ | exact m_viewAt _ | exact m_goPanic _ | exact m_unsupported _ | exact m_stuck _ | exact m_program | exact m_choose _ | exact m_setObj _ _ | exact m_getObj _ | exact m_frozen _ | exact m_freeze _ _ | exact m_shape _ | exact m_newObj _ | exact m_store _ _ _ | exact m_load _ _ | exact m_halt _ | exact m_pure _)
    | with_reducible refine m_map ?_
    | with_reducible refine m_bind ?_ (fun _ => ?_)
    | with_reducible refine m_ite ?_ ?_
    | refine m_forA (fun _ _ => ?_) _ _
    | refine m_forL (fun _ _ => ?_) _ _
    | refine m_forR (fun _ _ => ?_) _ _
    | refine m_mapA (fun _ => ?_) _
    | refine m_foldL (fun _ _ => ?_) _ _
    | split
    | dsimp only)

theorem m_part (t : TypeId) (cs : Array Value) (o : Nat) : M P ok (part t cs o) := by
  unfold part
  repeat' (first
    | with_reducible (first | assumption | exact m_elemOf _ | exact m_newVar _ _ | exact m_newRow _ _ | exact m_storeVar _ _ _ | exact m_loadVar _ _ | exact m_storeCells _ _ _ | exact m_loadCells _ _ | exact m_isAgg _ | exact m_sizeOf _ | exact m_zeroValue _ | exact m_typeStr _ | exact m_globalAddr _ | exact m_cutType _ | exact m_underlying _ | exact m_typeInfo _ | exact m_samePointer _ _ | exact m_sameAddr _ _ | exact m_mayBeOne _ _ | exact m_stringish _ | exact m_markStringish _ | exact m_noView _ | exact m_backFromNumber _ | exact m_behindNumber _ | exact m_asNumber _ _ | exact m_cellsIn _ | exact m_numberAt _ | exact m_viewAt _ | exact m_goPanic _ | exact m_unsupported _ | exact m_stuck _ | exact m_program | exact m_choose _ | exact m_setObj _ _ | exact m_getObj _ | exact m_frozen _ | exact m_freeze _ _ | exact m_shape _ | exact m_newObj _ | exact m_store _ _ _ | exact m_load _ _ | exact m_halt _ | exact m_pure _)
    | with_reducible refine m_map ?_
    | with_reducible refine m_bind ?_ (fun _ => ?_)
    | with_reducible refine m_ite ?_ ?_
    | refine m_forA (fun _ _ => ?_) _ _
    | refine m_forL (fun _ _ => ?_) _ _
    | refine m_forR (fun _ _ => ?_) _ _
    | refine m_mapA (fun _ => ?_) _
    | refine m_foldL (fun _ _ => ?_) _ _
    | split
    | dsimp only)

theorem m_runtimePanic {α : Type} (e : RuntimeError) : M P ok (runtimePanic e : Sem α) := by
  unfold runtimePanic
  repeat' (first
    | with_reducible (first | assumption | exact m_part _ _ _ | exact m_elemOf _ | exact m_newVar _ _ | exact m_newRow _ _ | exact m_storeVar _ _ _ | exact m_loadVar _ _ | exact m_storeCells _ _ _ | exact m_loadCells _ _ | exact m_isAgg _ | exact m_sizeOf _ | exact m_zeroValue _ | exact m_typeStr _ | exact m_globalAddr _ | exact m_cutType _ | exact m_underlying _ | exact m_typeInfo _ | exact m_samePointer _ _ | exact m_sameAddr _ _ | exact m_mayBeOne _ _ | exact m_stringish _ | exact m_markStringish _ | exact m_noView _ | exact m_backFromNumber _ | exact m_behindNumber _ | exact m_asNumber _ _ | exact m_cellsIn _ | exact m_numberAt _ | exact m_viewAt _ | exact m_goPanic _ | exact m_unsupported _ | exact m_stuck _ | exact m_program | exact m_choose _ | exact m_setObj _ _ | exact m_getObj _ | exact m_frozen _ | exact m_freeze _ _ | exact m_shape _ | exact m_newObj _ | exact m_store _ _ _ | exact m_load _ _ | exact m_halt _ | exact m_pure _)
    | with_reducible refine m_map ?_
    | with_reducible refine m_bind ?_ (fun _ => ?_)
    | with_reducible refine m_ite ?_ ?_
    | refine m_forA (fun _ _ => ?_) _ _
    | refine m_forL (fun _ _ => ?_) _ _
    | refine m_forR (fun _ _ => ?_) _ _
    | refine m_mapA (fun _ => ?_) _
    | refine m_foldL (fun _ _ => ?_) _ _
    | split
    | dsimp only)

theorem m_boundsPanic {α : Type} (k : IntKind) (x y : Int) (c : BoundsCode) : M P ok (boundsPanic k x y c : Sem α) := by
  unfold boundsPanic
  repeat' (first
    | with_reducible (first | assumption | exact m_runtimePanic _ | exact m_part _ _ _ | exact m_elemOf _ | exact m_newVar _ _ | exact m_newRow _ _ | exact m_storeVar _ _ _ | exact m_loadVar _ _ | exact m_storeCells _ _ _ | exact m_loadCells _ _ | exact m_isAgg _ | exact m_sizeOf _ | exact m_zeroValue _ | exact m_typeStr _ | exact m_globalAddr _ | exact m_cutType _ | exact m_underlying _ | exact m_typeInfo _ | exact m_samePointer _ _ | exact m_sameAddr _ _ | exact m_mayBeOne _ _ | exact m_stringish _ | exact m_markStringish _ | exact m_noView _ | exact m_backFromNumber _ | exact m_behindNumber _ | exact m_asNumber _ _ | exact m_cellsIn _ | exact m_numberAt _ | exact m_viewAt _ | exact m_goPanic _ | exact m_unsupported _ | exact m_stuck _ | exact m_program | exact m_choose _ | exact m_setObj _ _ | exact m_getObj _ | exact m_frozen _ | exact m_freeze _ _ | exact m_shape _ | exact m_newObj _ | exact m_store _ _ _ | exact m_load _ _ | exact m_halt _ | exact m_pure _)
    | with_reducible refine m_map ?_
    | with_reducible refine m_bind ?_ (fun _ => ?_)
    | with_reducible refine m_ite ?_ ?_
    | refine m_forA (fun _ _ => ?_) _ _
    | refine m_forL (fun _ _ => ?_) _ _
    | refine m_forR (fun _ _ => ?_) _ _
    | refine m_mapA (fun _ => ?_) _
    | refine m_foldL (fun _ _ => ?_) _ _
    | split
    | dsimp only)

theorem m_asIntOf (v : Value) : M P ok (asIntOf v) := by
  unfold asIntOf
  repeat' (first
    | with_reducible (first | assumption | exact m_boundsPanic _ _ _ _ | exact m_runtimePanic _ | exact m_part _ _ _ | exact m_elemOf _ | exact m_newVar _ _ | exact m_newRow _ _ | exact m_storeVar _ _ _ | exact m_loadVar _ _ | exact m_storeCells _ _ _ | exact m_loadCells _ _ | exact m_isAgg _ | exact m_sizeOf _ | exact m_zeroValue _ | exact m_typeStr _ | exact m_globalAddr _ | exact m_cutType _ | exact m_underlying _ | exact m_typeInfo _ | exact m_samePointer _ _ | exact m_sameAddr _ _ | exact m_mayBeOne _ _ | exact m_stringish _ | exact m_markStringish _ | exact m_noView _ | exact m_backFromNumber _ | exact m_behindNumber _ | exact m_asNumber _ _ | exact m_cellsIn _ | exact m_numberAt _ | exact m_viewAt _ | exact m_goPanic _ | exact m_unsupported _ | exact m_stuck _ | exact m_program | exact m_choose _ | exact m_setObj _ _ | exact m_getObj _ | exact m_frozen _ | exact m_freeze _ _ | exact m_shape _ | exact m_newObj _ | exact m_store _ _ _ | exact m_load _ _ | exact m_halt _ | exact m_pure _)
    | with_reducible refine m_map ?_
    | with_reducible refine m_bind ?_ (fun _ => ?_)
    | with_reducible refine m_ite ?_ ?_
    | refine m_forA (fun _ _ => ?_) _ _
    | refine m_forL (fun _ _ => ?_) _ _
    | refine m_forR (fun _ _ => ?_) _ _
    | refine m_mapA (fun _ => ?_) _
    | refine m_foldL (fun _ _ => ?_) _ _
    | split
    | dsimp only)

theorem m_asInt (v : Value) : M P ok (asInt v) := by
  unfold asInt
  repeat' (first
    | with_reducible (first | assumption | exact m_asIntOf _ | exact m_boundsPanic _ _ _ _ | exact m_runtimePanic _ | exact m_part _ _ _ | exact m_elemOf _ | exact m_newVar _ _ | exact m_newRow _ _ | exact m_storeVar _ _ _ | exact m_loadVar _ _ | exact m_storeCells _ _ _ | exact m_loadCells _ _ | exact m_isAgg _ | exact m_sizeOf _ | exact m_zeroValue _ | exact m_typeStr _ | exact m_globalAddr _ | exact m_cutType _ | exact m_underlying _ | exact m_typeInfo _ | exact m_samePointer _ _ | exact m_sameAddr _ _ | exact m_mayBeOne _ _ | exact m_stringish _ | exact m_markStringish _ | exact m_noView _ | exact m_backFromNumber _ | exact m_behindNumber _ | exact m_asNumber _ _ | exact m_cellsIn _ | exact m_numberAt _ | exact m_viewAt _ | exact m_goPanic _ | exact m_unsupported _ | exact m_stuck _ | exact m_program | exact m_choose _ | exact m_setObj _ _ | exact m_getObj _ | exact m_frozen _ | exact m_freeze _ _ | exact m_shape _ | exact m_newObj _ | exact m_store _ _ _ | exact m_load _ _ | exact m_halt _ | exact m_pure _)
    | with_reducible refine m_map ?_
    | with_reducible refine m_bind ?_ (fun _ => ?_)
    | with_reducible refine m_ite ?_ ?_
    | refine m_forA (fun _ _ => ?_) _ _
    | refine m_forL (fun _ _ => ?_) _ _
    | refine m_forR (fun _ _ => ?_) _ _
    | refine m_mapA (fun _ => ?_) _
    | refine m_foldL (fun _ _ => ?_) _ _
    | split
    | dsimp only)

theorem m_asBool (v : Value) : M P ok (asBool v) := by
  unfold asBool
  repeat' (first
    | with_reducible (first | assumption | exact m_asInt _ | exact m_asIntOf _ | exact m_boundsPanic _ _ _ _ | exact m_runtimePanic _ | exact m_part _ _ _ | exact m_elemOf _ | exact m_newVar _ _ | exact m_newRow _ _ | exact m_storeVar _ _ _ | exact m_loadVar _ _ | exact m_storeCells _ _ _ | exact m_loadCells _ _ | exact m_isAgg _ | exact m_sizeOf _ | exact m_zeroValue _ | exact m_typeStr _ | exact m_globalAddr _ | exact m_cutType _ | exact m_underlying _ | exact m_typeInfo _ | exact m_samePointer _ _ | exact m_sameAddr _ _ | exact m_mayBeOne _ _ | exact m_stringish _ | exact m_markStringish _ | exact m_noView _ | exact m_backFromNumber _ | exact m_behindNumber _ | exact m_asNumber _ _ | exact m_cellsIn _ | exact m_numberAt _ | exact m_viewAt _ | exact m_goPanic _ | exact m_unsupported _ | exact m_stuck _ | exact m_program | exact m_choose _ | exact m_setObj _ _ | exact m_getObj _ | exact m_frozen _ | exact m_freeze _ _ | exact m_shape _ | exact m_newObj _ | exact m_store _ _ _ | exact m_load _ _ | exact m_halt _ | exact m_pure _)
    | with_reducible refine m_map ?_
    | with_reducible refine m_bind ?_ (fun _ => ?_)
    | with_reducible refine m_ite ?_ ?_
    | refine m_forA (fun _ _ => ?_) _ _
    | refine m_forL (fun _ _ => ?_) _ _
    | refine m_forR (fun _ _ => ?_) _ _
    | refine m_mapA (fun _ => ?_) _
    | refine m_foldL (fun _ _ => ?_) _ _
    | split
    | dsimp only)

theorem m_asString (v : Value) : M P ok (asString v) := by
  unfold asString
  repeat' (first
    | with_reducible (first | assumption | exact m_asBool _ | exact m_asInt _ | exact m_asIntOf _ | exact m_boundsPanic _ _ _ _ | exact m_runtimePanic _ | exact m_part _ _ _ | exact m_elemOf _ | exact m_newVar _ _ | exact m_newRow _ _ | exact m_storeVar _ _ _ | exact m_loadVar _ _ | exact m_storeCells _ _ _ | exact m_loadCells _ _ | exact m_isAgg _ | exact m_sizeOf _ | exact m_zeroValue _ | exact m_typeStr _ | exact m_globalAddr _ | exact m_cutType _ | exact m_underlying _ | exact m_typeInfo _ | exact m_samePointer _ _ | exact m_sameAddr _ _ | exact m_mayBeOne _ _ | exact m_stringish _ | exact m_markStringish _ | exact m_noView _ | exact m_backFromNumber _ | exact m_behindNumber _ | exact m_asNumber _ _ | exact m_cellsIn _ | exact m_numberAt _ | exact m_viewAt _ | exact m_goPanic _ | exact m_unsupported _ | exact m_stuck _ | exact m_program | exact m_choose _ | exact m_setObj _ _ | exact m_getObj _ | exact m_frozen _ | exact m_freeze _ _ | exact m_shape _ | exact m_newObj _ | exact m_store _ _ _ | exact m_load _ _ | exact m_halt _ | exact m_pure _)
    | with_reducible refine m_map ?_
    | with_reducible refine m_bind ?_ (fun _ => ?_)
    | with_reducible refine m_ite ?_ ?_
    | refine m_forA (fun _ _ => ?_) _ _
    | refine m_forL (fun _ _ => ?_) _ _
    | refine m_forR (fun _ _ => ?_) _ _
    | refine m_mapA (fun _ => ?_) _
    | refine m_foldL (fun _ _ => ?_) _ _
    | split
    | dsimp only)

theorem m_asAgg (v : Value) : M P ok (asAgg v) := by
  unfold asAgg
  repeat' (first
    | with_reducible (first | assumption | exact m_asString _ | exact m_asBool _ | exact m_asInt _ | exact m_asIntOf _ | exact m_boundsPanic _ _ _ _ | exact m_runtimePanic _ | exact m_part _ _ _ | exact m_elemOf _ | exact m_newVar _ _ | exact m_newRow _ _ | exact m_storeVar _ _ _ | exact m_loadVar _ _ | exact m_storeCells _ _ _ | exact m_loadCells _ _ | exact m_isAgg _ | exact m_sizeOf _ | exact m_zeroValue _ | exact m_typeStr _ | exact m_globalAddr _ | exact m_cutType _ | exact m_underlying _ | exact m_typeInfo _ | exact m_samePointer _ _ | exact m_sameAddr _ _ | exact m_mayBeOne _ _ | exact m_stringish _ | exact m_markStringish _ | exact m_noView _ | exact m_backFromNumber _ | exact m_behindNumber _ | exact m_asNumber _ _ | exact m_cellsIn _ | exact m_numberAt _ | exact m_viewAt _ | exact m_goPanic _ | exact m_unsupported _ | exact m_stuck _ | exact m_program | exact m_choose _ | exact m_setObj _ _ | exact m_getObj _ | exact m_frozen _ | exact m_freeze _ _ | exact m_shape _ | exact m_newObj _ | exact m_store _ _ _ | exact m_load _ _ | exact m_halt _ | exact m_pure _)
    | with_reducible refine m_map ?_
    | with_reducible refine m_bind ?_ (fun _ => ?_)
    | with_reducible refine m_ite ?_ ?_
    | refine m_forA (fun _ _ => ?_) _ _
    | refine m_forL (fun _ _ => ?_) _ _
    | refine m_forR (fun _ _ => ?_) _ _
    | refine m_mapA (fun _ => ?_) _
    | refine m_foldL (fun _ _ => ?_) _ _
    | split
    | dsimp only)

theorem m_asAddr (v : Value) : M P ok (asAddr v) := by
  unfold asAddr
  repeat' (first
    | with_reducible (first | assumption | exact m_asAgg _ | exact m_asString _ | exact m_asBool _ | exact m_asInt _ | exact m_asIntOf _ | exact m_boundsPanic _ _ _ _ | exact m_runtimePanic _ | exact m_part _ _ _ | exact m_elemOf _ | exact m_newVar _ _ | exact m_newRow _ _ | exact m_storeVar _ _ _ | exact m_loadVar _ _ | exact m_storeCells _ _ _ | exact m_loadCells _ _ | exact m_isAgg _ | exact m_sizeOf _ | exact m_zeroValue _ | exact m_typeStr _ | exact m_globalAddr _ | exact m_cutType _ | exact m_underlying _ | exact m_typeInfo _ | exact m_samePointer _ _ | exact m_sameAddr _ _ | exact m_mayBeOne _ _ | exact m_stringish _ | exact m_markStringish _ | exact m_noView _ | exact m_backFromNumber _ | exact m_behindNumber _ | exact m_asNumber _ _ | exact m_cellsIn _ | exact m_numberAt _ | exact m_viewAt _ | exact m_goPanic _ | exact m_unsupported _ | exact m_stuck _ | exact m_program | exact m_choose _ | exact m_setObj _ _ | exact m_getObj _ | exact m_frozen _ | exact m_freeze _ _ | exact m_shape _ | exact m_newObj _ | exact m_store _ _ _ | exact m_load _ _ | exact m_halt _ | exact m_pure _)
    | with_reducible refine m_map ?_
    | with_reducible refine m_bind ?_ (fun _ => ?_)
    | with_reducible refine m_ite ?_ ?_
    | refine m_forA (fun _ _ => ?_) _ _
    | refine m_forL (fun _ _ => ?_) _ _
    | refine m_forR (fun _ _ => ?_) _ _
    | refine m_mapA (fun _ => ?_) _
    | refine m_foldL (fun _ _ => ?_) _ _
    | split
    | dsimp only)

theorem m_results (fn : Func) (tmps : Array Value) : M P ok (results fn tmps) := by
  unfold results
  repeat' (first
    | with_reducible (first | assumption | exact m_asAddr _ | exact m_asAgg _ | exact m_asString _ | exact m_asBool _ | exact m_asInt _ | exact m_asIntOf _ | exact m_boundsPanic _ _ _ _ | exact m_runtimePanic _ | exact m_part _ _ _ | exact m_elemOf _ | exact m_newVar _ _ | exact m_newRow _ _ | exact m_storeVar _ _ _ | exact m_loadVar _ _ | exact m_storeCells _ _ _ | exact m_loadCells _ _ | exact m_isAgg _ | exact m_sizeOf _ | exact m_zeroValue _ | exact m_typeStr _ | exact m_globalAddr _ | exact m_cutType _ | exact m_underlying _ | exact m_typeInfo _ | exact m_samePointer _ _ | exact m_sameAddr _ _ | exact m_mayBeOne _ _ | exact m_stringish _ | exact m_markStringish _ | exact m_noView _ | exact m_backFromNumber _ | exact m_behindNumber _ | exact m_asNumber _ _ | exact m_cellsIn _ | exact m_numberAt _ | exact m_viewAt _ | exact m_goPanic _ | exact m_unsupported _ | exact m_stuck _ | exact m_program | exact m_choose _ | exact m_setObj _ _ | exact m_getObj _ | exact m_frozen _ | exact m_freeze _ _ | exact m_shape _ | exact m_newObj _ | exact m_store _ _ _ | exact m_load _ _ | exact m_halt _ | exact m_pure _)
    | with_reducible refine m_map ?_
    | with_reducible refine m_bind ?_ (fun _ => ?_)
    | with_reducible refine m_ite ?_ ?_
    | refine m_forA (fun _ _ => ?_) _ _
    | refine m_forL (fun _ _ => ?_) _ _
    | refine m_forR (fun _ _ => ?_) _ _
    | refine m_mapA (fun _ => ?_) _
    | refine m_foldL (fun _ _ => ?_) _ _
    | split
    | dsimp only)

theorem m_byteOf (a : Addr) : M P ok (byteOf a) := by
  unfold byteOf
  repeat' (first
    | with_reducible (first | assumption | exact m_results _ _ | exact m_asAddr _ | exact m_asAgg _ | exact m_asString _ | exact m_asBool _ | exact m_asInt _ | exact m_asIntOf _ | exact m_boundsPanic _ _ _ _ | exact m_runtimePanic _ | exact m_part _ _ _ | exact m_elemOf _ | exact m_newVar _ _ | exact m_newRow _ _ | exact m_storeVar _ _ _ | exact m_loadVar _ _ | exact m_storeCells _ _ _ | exact m_loadCells _ _ | exact m_isAgg _ | exact m_sizeOf _ | exact m_zeroValue _ | exact m_typeStr _ | exact m_globalAddr _ | exact m_cutType _ | exact m_underlying _ | exact m_typeInfo _ | exact m_samePointer _ _ | exact m_sameAddr _ _ | exact m_mayBeOne _ _ | exact m_stringish _ | exact m_markStringish _ | exact m_noView _ | exact m_backFromNumber _ | exact m_behindNumber _ | exact m_asNumber _ _ | exact m_cellsIn _ | exact m_numberAt _ | exact m_viewAt _ | exact m_goPanic _ | exact m_unsupported _ | exact m_stuck _ | exact m_program | exact m_choose _ | exact m_setObj _ _ | exact m_getObj _ | exact m_frozen _ | exact m_freeze _ _ | exact m_shape _ | exact m_newObj _ | exact m_store _ _ _ | exact m_load _ _ | exact m_halt _ | exact m_pure _)
    | with_reducible refine m_map ?_
    | with_reducible refine m_bind ?_ (fun _ => ?_)
    | with_reducible refine m_ite ?_ ?_
    | refine m_forA (fun _ _ => ?_) _ _
    | refine m_forL (fun _ _ => ?_) _ _
    | refine m_forR (fun _ _ => ?_) _ _
    | refine m_mapA (fun _ => ?_) _
    | refine m_foldL (fun _ _ => ?_) _ _
    | split
    | dsimp only)

theorem m_partAt (a : Addr) (c b : Nat) : M P ok (partAt a c b) := by
  unfold partAt
  repeat' (first
    | with_reducible (first | assumption | exact m_byteOf _ | exact m_results _ _ | exact m_asAddr _ | exact m_asAgg _ | exact m_asString _ | exact m_asBool _ | exact m_asInt _ | exact m_asIntOf _ | exact m_boundsPanic _ _ _ _ | exact m_runtimePanic _ | exact m_part _ _ _ | exact m_elemOf _ | exact m_newVar _ _ | exact m_newRow _ _ | exact m_storeVar _ _ _ | exact m_loadVar _ _ | exact m_storeCells _ _ _ | exact m_loadCells _ _ | exact m_isAgg _ | exact m_sizeOf _ | exact m_zeroValue _ | exact m_typeStr _ | exact m_globalAddr _ | exact m_cutType _ | exact m_underlying _ | exact m_typeInfo _ | exact m_samePointer _ _ | exact m_sameAddr _ _ | exact m_mayBeOne _ _ | exact m_stringish _ | exact m_markStringish _ | exact m_noView _ | exact m_backFromNumber _ | exact m_behindNumber _ | exact m_asNumber _ _ | exact m_cellsIn _ | exact m_numberAt _ | exact m_viewAt _ | exact m_goPanic _ | exact m_unsupported _ | exact m_stuck _ | exact m_program | exact m_choose _ | exact m_setObj _ _ | exact m_getObj _ | exact m_frozen _ | exact m_freeze _ _ | exact m_shape _ | exact m_newObj _ | exact m_store _ _ _ | exact m_load _ _ | exact m_halt _ | exact m_pure _)
    | with_reducible refine m_map ?_
    | with_reducible refine m_bind ?_ (fun _ => ?_)
    | with_reducible refine m_ite ?_ ?_
    | refine m_forA (fun _ _ => ?_) _ _
    | refine m_forL (fun _ _ => ?_) _ _
    | refine m_forR (fun _ _ => ?_) _ _
    | refine m_mapA (fun _ => ?_) _
    | refine m_foldL (fun _ _ => ?_) _ _
    | split
    | dsimp only)

theorem m_fieldPlace (a : Addr) (f : Field) : M P ok (fieldPlace a f) := by
  unfold fieldPlace
  repeat' (first
    | with_reducible (first | assumption | exact m_partAt _ _ _ | exact m_byteOf _ | exact m_results _ _ | exact m_asAddr _ | exact m_asAgg _ | exact m_asString _ | exact m_asBool _ | exact m_asInt _ | exact m_asIntOf _ | exact m_boundsPanic _ _ _ _ | exact m_runtimePanic _ | exact m_part _ _ _ | exact m_elemOf _ | exact m_newVar _ _ | exact m_newRow _ _ | exact m_storeVar _ _ _ | exact m_loadVar _ _ | exact m_storeCells _ _ _ | exact m_loadCells _ _ | exact m_isAgg _ | exact m_sizeOf _ | exact m_zeroValue _ | exact m_typeStr _ | exact m_globalAddr _ | exact m_cutType _ | exact m_underlying _ | exact m_typeInfo _ | exact m_samePointer _ _ | exact m_sameAddr _ _ | exact m_mayBeOne _ _ | exact m_stringish _ | exact m_markStringish _ | exact m_noView _ | exact m_backFromNumber _ | exact m_behindNumber _ | exact m_asNumber _ _ | exact m_cellsIn _ | exact m_numberAt _ | exact m_viewAt _ | exact m_goPanic _ | exact m_unsupported _ | exact m_stuck _ | exact m_program | exact m_choose _ | exact m_setObj _ _ | exact m_getObj _ | exact m_frozen _ | exact m_freeze _ _ | exact m_shape _ | exact m_newObj _ | exact m_store _ _ _ | exact m_load _ _ | exact m_halt _ | exact m_pure _)
    | with_reducible refine m_map ?_
    | with_reducible refine m_bind ?_ (fun _ => ?_)
    | with_reducible refine m_ite ?_ ?_
    | refine m_forA (fun _ _ => ?_) _ _
    | refine m_forL (fun _ _ => ?_) _ _
    | refine m_forR (fun _ _ => ?_) _ _
    | refine m_mapA (fun _ => ?_) _
    | refine m_foldL (fun _ _ => ?_) _ _
    | split
    | dsimp only)

theorem m_variablesAt (a : Addr) (u : TypeId) (n : Nat) : M P ok (variablesAt a u n) := by
  unfold variablesAt
  repeat' (first
    | with_reducible (first | assumption | exact m_fieldPlace _ _ | exact m_partAt _ _ _ | exact m_byteOf _ | exact m_results _ _ | exact m_asAddr _ | exact m_asAgg _ | exact m_asString _ | exact m_asBool _ | exact m_asInt _ | exact m_asIntOf _ | exact m_boundsPanic _ _ _ _ | exact m_runtimePanic _ | exact m_part _ _ _ | exact m_elemOf _ | exact m_newVar _ _ | exact m_newRow _ _ | exact m_storeVar _ _ _ | exact m_loadVar _ _ | exact m_storeCells _ _ _ | exact m_loadCells _ _ | exact m_isAgg _ | exact m_sizeOf _ | exact m_zeroValue _ | exact m_typeStr _ | exact m_globalAddr _ | exact m_cutType _ | exact m_underlying _ | exact m_typeInfo _ | exact m_samePointer _ _ | exact m_sameAddr _ _ | exact m_mayBeOne _ _ | exact m_stringish _ | exact m_markStringish _ | exact m_noView _ | exact m_backFromNumber _ | exact m_behindNumber _ | exact m_asNumber _ _ | exact m_cellsIn _ | exact m_numberAt _ | exact m_viewAt _ | exact m_goPanic _ | exact m_unsupported _ | exact m_stuck _ | exact m_program | exact m_choose _ | exact m_setObj _ _ | exact m_getObj _ | exact m_frozen _ | exact m_freeze _ _ | exact m_shape _ | exact m_newObj _ | exact m_store _ _ _ | exact m_load _ _ | exact m_halt _ | exact m_pure _)
    | with_reducible refine m_map ?_
    | with_reducible refine m_bind ?_ (fun _ => ?_)
    | with_reducible refine m_ite ?_ ?_
    | refine m_forA (fun _ _ => ?_) _ _
    | refine m_forL (fun _ _ => ?_) _ _
    | refine m_forR (fun _ _ => ?_) _ _
    | refine m_mapA (fun _ => ?_) _
    | refine m_foldL (fun _ _ => ?_) _ _
    | split
    | dsimp only)

theorem m_loadBytes : ∀ (n : Nat) (a : Addr) (acc : ByteArray), M P ok (loadBytes a acc n)
  | 0, _, _ => by unfold loadBytes; trivial
  | n + 1, a, acc => by
    unfold loadBytes
    refine m_bind (m_load _ _) fun v => ?_
    split
    · exact m_loadBytes n _ _
    · trivial

theorem m_alloc (t : TypeId) (h : Bool) (o : Value) : M P ok (Instr.alloc t h o) := by
  unfold Instr.alloc
  repeat' (first
    | with_reducible (first | assumption | exact m_loadBytes _ _ _ | exact m_variablesAt _ _ _ | exact m_fieldPlace _ _ | exact m_partAt _ _ _ | exact m_byteOf _ | exact m_results _ _ | exact m_asAddr _ | exact m_asAgg _ | exact m_asString _ | exact m_asBool _ | exact m_asInt _ | exact m_asIntOf _ | exact m_boundsPanic _ _ _ _ | exact m_runtimePanic _ | exact m_part _ _ _ | exact m_elemOf _ | exact m_newVar _ _ | exact m_newRow _ _ | exact m_storeVar _ _ _ | exact m_loadVar _ _ | exact m_storeCells _ _ _ | exact m_loadCells _ _ | exact m_isAgg _ | exact m_sizeOf _ | exact m_zeroValue _ | exact m_typeStr _ | exact m_globalAddr _ | exact m_cutType _ | exact m_underlying _ | exact m_typeInfo _ | exact m_samePointer _ _ | exact m_sameAddr _ _ | exact m_mayBeOne _ _ | exact m_stringish _ | exact m_markStringish _ | exact m_noView _ | exact m_backFromNumber _ | exact m_behindNumber _ | exact m_asNumber _ _ | exact m_cellsIn _ | exact m_numberAt _ | exact m_viewAt _ | exact m_goPanic _ | exact m_unsupported _ | exact m_stuck _ | exact m_program | exact m_choose _ | exact m_setObj _ _ | exact m_getObj _ | exact m_frozen _ | exact m_freeze _ _ | exact m_shape _ | exact m_newObj _ | exact m_store _ _ _ | exact m_load _ _ | exact m_halt _ | exact m_pure _)
    | with_reducible refine m_map ?_
    | with_reducible refine m_bind ?_ (fun _ => ?_)
    | with_reducible refine m_ite ?_ ?_
    | refine m_forA (fun _ _ => ?_) _ _
    | refine m_forL (fun _ _ => ?_) _ _
    | refine m_forR (fun _ _ => ?_) _ _
    | refine m_mapA (fun _ => ?_) _
    | refine m_foldL (fun _ _ => ?_) _ _
    | split
    | dsimp only)

theorem m_sureAddr (v : Value) : M P ok (Instr.sureAddr v) := by
  unfold Instr.sureAddr
  repeat' (first
    | with_reducible (first | assumption | exact m_alloc _ _ _ | exact m_loadBytes _ _ _ | exact m_variablesAt _ _ _ | exact m_fieldPlace _ _ | exact m_partAt _ _ _ | exact m_byteOf _ | exact m_results _ _ | exact m_asAddr _ | exact m_asAgg _ | exact m_asString _ | exact m_asBool _ | exact m_asInt _ | exact m_asIntOf _ | exact m_boundsPanic _ _ _ _ | exact m_runtimePanic _ | exact m_part _ _ _ | exact m_elemOf _ | exact m_newVar _ _ | exact m_newRow _ _ | exact m_storeVar _ _ _ | exact m_loadVar _ _ | exact m_storeCells _ _ _ | exact m_loadCells _ _ | exact m_isAgg _ | exact m_sizeOf _ | exact m_zeroValue _ | exact m_typeStr _ | exact m_globalAddr _ | exact m_cutType _ | exact m_underlying _ | exact m_typeInfo _ | exact m_samePointer _ _ | exact m_sameAddr _ _ | exact m_mayBeOne _ _ | exact m_stringish _ | exact m_markStringish _ | exact m_noView _ | exact m_backFromNumber _ | exact m_behindNumber _ | exact m_asNumber _ _ | exact m_cellsIn _ | exact m_numberAt _ | exact m_viewAt _ | exact m_goPanic _ | exact m_unsupported _ | exact m_stuck _ | exact m_program | exact m_choose _ | exact m_setObj _ _ | exact m_getObj _ | exact m_frozen _ | exact m_freeze _ _ | exact m_shape _ | exact m_newObj _ | exact m_store _ _ _ | exact m_load _ _ | exact m_halt _ | exact m_pure _)
    | with_reducible refine m_map ?_
    | with_reducible refine m_bind ?_ (fun _ => ?_)
    | with_reducible refine m_ite ?_ ?_
    | refine m_forA (fun _ _ => ?_) _ _
    | refine m_forL (fun _ _ => ?_) _ _
    | refine m_forR (fun _ _ => ?_) _ _
    | refine m_mapA (fun _ => ?_) _
    | refine m_foldL (fun _ _ => ?_) _ _
    | split
    | dsimp only)

theorem m_loadAt (t : TypeId) (v : Value) : M P ok (Instr.loadAt t v) := by
  unfold Instr.loadAt
  repeat' (first
    | with_reducible (first | assumption | exact m_sureAddr _ | exact m_alloc _ _ _ | exact m_loadBytes _ _ _ | exact m_variablesAt _ _ _ | exact m_fieldPlace _ _ | exact m_partAt _ _ _ | exact m_byteOf _ | exact m_results _ _ | exact m_asAddr _ | exact m_asAgg _ | exact m_asString _ | exact m_asBool _ | exact m_asInt _ | exact m_asIntOf _ | exact m_boundsPanic _ _ _ _ | exact m_runtimePanic _ | exact m_part _ _ _ | exact m_elemOf _ | exact m_newVar _ _ | exact m_newRow _ _ | exact m_storeVar _ _ _ | exact m_loadVar _ _ | exact m_storeCells _ _ _ | exact m_loadCells _ _ | exact m_isAgg _ | exact m_sizeOf _ | exact m_zeroValue _ | exact m_typeStr _ | exact m_globalAddr _ | exact m_cutType _ | exact m_underlying _ | exact m_typeInfo _ | exact m_samePointer _ _ | exact m_sameAddr _ _ | exact m_mayBeOne _ _ | exact m_stringish _ | exact m_markStringish _ | exact m_noView _ | exact m_backFromNumber _ | exact m_behindNumber _ | exact m_asNumber _ _ | exact m_cellsIn _ | exact m_numberAt _ | exact m_viewAt _ | exact m_goPanic _ | exact m_unsupported _ | exact m_stuck _ | exact m_program | exact m_choose _ | exact m_setObj _ _ | exact m_getObj _ | exact m_frozen _ | exact m_freeze _ _ | exact m_shape _ | exact m_newObj _ | exact m_store _ _ _ | exact m_load _ _ | exact m_halt _ | exact m_pure _)
    | with_reducible refine m_map ?_
    | with_reducible refine m_bind ?_ (fun _ => ?_)
    | with_reducible refine m_ite ?_ ?_
    | refine m_forA (fun _ _ => ?_) _ _
    | refine m_forL (fun _ _ => ?_) _ _
    | refine m_forR (fun _ _ => ?_) _ _
    | refine m_mapA (fun _ => ?_) _
    | refine m_foldL (fun _ _ => ?_) _ _
    | split
    | dsimp only)

theorem m_storeAt (t : TypeId) (a v : Value) : M P ok (Instr.storeAt t a v) := by
  unfold Instr.storeAt
  repeat' (first
    | with_reducible (first | assumption | exact m_loadAt _ _ | exact m_sureAddr _ | exact m_alloc _ _ _ | exact m_loadBytes _ _ _ | exact m_variablesAt _ _ _ | exact m_fieldPlace _ _ | exact m_partAt _ _ _ | exact m_byteOf _ | exact m_results _ _ | exact m_asAddr _ | exact m_asAgg _ | exact m_asString _ | exact m_asBool _ | exact m_asInt _ | exact m_asIntOf _ | exact m_boundsPanic _ _ _ _ | exact m_runtimePanic _ | exact m_part _ _ _ | exact m_elemOf _ | exact m_newVar _ _ | exact m_newRow _ _ | exact m_storeVar _ _ _ | exact m_loadVar _ _ | exact m_storeCells _ _ _ | exact m_loadCells _ _ | exact m_isAgg _ | exact m_sizeOf _ | exact m_zeroValue _ | exact m_typeStr _ | exact m_globalAddr _ | exact m_cutType _ | exact m_underlying _ | exact m_typeInfo _ | exact m_samePointer _ _ | exact m_sameAddr _ _ | exact m_mayBeOne _ _ | exact m_stringish _ | exact m_markStringish _ | exact m_noView _ | exact m_backFromNumber _ | exact m_behindNumber _ | exact m_asNumber _ _ | exact m_cellsIn _ | exact m_numberAt _ | exact m_viewAt _ | exact m_goPanic _ | exact m_unsupported _ | exact m_stuck _ | exact m_program | exact m_choose _ | exact m_setObj _ _ | exact m_getObj _ | exact m_frozen _ | exact m_freeze _ _ | exact m_shape _ | exact m_newObj _ | exact m_store _ _ _ | exact m_load _ _ | exact m_halt _ | exact m_pure _)
    | with_reducible refine m_map ?_
    | with_reducible refine m_bind ?_ (fun _ => ?_)
    | with_reducible refine m_ite ?_ ?_
    | refine m_forA (fun _ _ => ?_) _ _
    | refine m_forL (fun _ _ => ?_) _ _
    | refine m_forR (fun _ _ => ?_) _ _
    | refine m_mapA (fun _ => ?_) _
    | refine m_foldL (fun _ _ => ?_) _ _
    | split
    | dsimp only)

theorem m_fieldAt (t : TypeId) (a : Value) (f : Nat) : M P ok (Instr.fieldAt t a f) := by
  unfold Instr.fieldAt
  repeat' (first
    | with_reducible (first | assumption | exact m_storeAt _ _ _ | exact m_loadAt _ _ | exact m_sureAddr _ | exact m_alloc _ _ _ | exact m_loadBytes _ _ _ | exact m_variablesAt _ _ _ | exact m_fieldPlace _ _ | exact m_partAt _ _ _ | exact m_byteOf _ | exact m_results _ _ | exact m_asAddr _ | exact m_asAgg _ | exact m_asString _ | exact m_asBool _ | exact m_asInt _ | exact m_asIntOf _ | exact m_boundsPanic _ _ _ _ | exact m_runtimePanic _ | exact m_part _ _ _ | exact m_elemOf _ | exact m_newVar _ _ | exact m_newRow _ _ | exact m_storeVar _ _ _ | exact m_loadVar _ _ | exact m_storeCells _ _ _ | exact m_loadCells _ _ | exact m_isAgg _ | exact m_sizeOf _ | exact m_zeroValue _ | exact m_typeStr _ | exact m_globalAddr _ | exact m_cutType _ | exact m_underlying _ | exact m_typeInfo _ | exact m_samePointer _ _ | exact m_sameAddr _ _ | exact m_mayBeOne _ _ | exact m_stringish _ | exact m_markStringish _ | exact m_noView _ | exact m_backFromNumber _ | exact m_behindNumber _ | exact m_asNumber _ _ | exact m_cellsIn _ | exact m_numberAt _ | exact m_viewAt _ | exact m_goPanic _ | exact m_unsupported _ | exact m_stuck _ | exact m_program | exact m_choose _ | exact m_setObj _ _ | exact m_getObj _ | exact m_frozen _ | exact m_freeze _ _ | exact m_shape _ | exact m_newObj _ | exact m_store _ _ _ | exact m_load _ _ | exact m_halt _ | exact m_pure _)
    | with_reducible refine m_map ?_
    | with_reducible refine m_bind ?_ (fun _ => ?_)
    | with_reducible refine m_ite ?_ ?_
    | refine m_forA (fun _ _ => ?_) _ _
    | refine m_forL (fun _ _ => ?_) _ _
    | refine m_forR (fun _ _ => ?_) _ _
    | refine m_mapA (fun _ => ?_) _
    | refine m_foldL (fun _ _ => ?_) _ _
    | split
    | dsimp only)

theorem m_indexAt (t : TypeId) (x i : Value) : M P ok (Instr.indexAt t x i) := by
  unfold Instr.indexAt
  repeat' (first
    | with_reducible (first | assumption | exact m_fieldAt _ _ _ | exact m_storeAt _ _ _ | exact m_loadAt _ _ | exact m_sureAddr _ | exact m_alloc _ _ _ | exact m_loadBytes _ _ _ | exact m_variablesAt _ _ _ | exact m_fieldPlace _ _ | exact m_partAt _ _ _ | exact m_byteOf _ | exact m_results _ _ | exact m_asAddr _ | exact m_asAgg _ | exact m_asString _ | exact m_asBool _ | exact m_asInt _ | exact m_asIntOf _ | exact m_boundsPanic _ _ _ _ | exact m_runtimePanic _ | exact m_part _ _ _ | exact m_elemOf _ | exact m_newVar _ _ | exact m_newRow _ _ | exact m_storeVar _ _ _ | exact m_loadVar _ _ | exact m_storeCells _ _ _ | exact m_loadCells _ _ | exact m_isAgg _ | exact m_sizeOf _ | exact m_zeroValue _ | exact m_typeStr _ | exact m_globalAddr _ | exact m_cutType _ | exact m_underlying _ | exact m_typeInfo _ | exact m_samePointer _ _ | exact m_sameAddr _ _ | exact m_mayBeOne _ _ | exact m_stringish _ | exact m_markStringish _ | exact m_noView _ | exact m_backFromNumber _ | exact m_behindNumber _ | exact m_asNumber _ _ | exact m_cellsIn _ | exact m_numberAt _ | exact m_viewAt _ | exact m_goPanic _ | exact m_unsupported _ | exact m_stuck _ | exact m_program | exact m_choose _ | exact m_setObj _ _ | exact m_getObj _ | exact m_frozen _ | exact m_freeze _ _ | exact m_shape _ | exact m_newObj _ | exact m_store _ _ _ | exact m_load _ _ | exact m_halt _ | exact m_pure _)
    | with_reducible refine m_map ?_
    | with_reducible refine m_bind ?_ (fun _ => ?_)
    | with_reducible refine m_ite ?_ ?_
    | refine m_forA (fun _ _ => ?_) _ _
    | refine m_forL (fun _ _ => ?_) _ _
    | refine m_forR (fun _ _ => ?_) _ _
    | refine m_mapA (fun _ => ?_) _
    | refine m_foldL (fun _ _ => ?_) _ _
    | split
    | dsimp only)

theorem m_sliceBound (x : Value) (y : Nat) (c : BoundsCode) : M P ok (Instr.sliceBound x y c) := by
  unfold Instr.sliceBound
  repeat' (first
    | with_reducible (first | assumption | exact m_indexAt _ _ _ | exact m_fieldAt _ _ _ | exact m_storeAt _ _ _ | exact m_loadAt _ _ | exact m_sureAddr _ | exact m_alloc _ _ _ | exact m_loadBytes _ _ _ | exact m_variablesAt _ _ _ | exact m_fieldPlace _ _ | exact m_partAt _ _ _ | exact m_byteOf _ | exact m_results _ _ | exact m_asAddr _ | exact m_asAgg _ | exact m_asString _ | exact m_asBool _ | exact m_asInt _ | exact m_asIntOf _ | exact m_boundsPanic _ _ _ _ | exact m_runtimePanic _ | exact m_part _ _ _ | exact m_elemOf _ | exact m_newVar _ _ | exact m_newRow _ _ | exact m_storeVar _ _ _ | exact m_loadVar _ _ | exact m_storeCells _ _ _ | exact m_loadCells _ _ | exact m_isAgg _ | exact m_sizeOf _ | exact m_zeroValue _ | exact m_typeStr _ | exact m_globalAddr _ | exact m_cutType _ | exact m_underlying _ | exact m_typeInfo _ | exact m_samePointer _ _ | exact m_sameAddr _ _ | exact m_mayBeOne _ _ | exact m_stringish _ | exact m_markStringish _ | exact m_noView _ | exact m_backFromNumber _ | exact m_behindNumber _ | exact m_asNumber _ _ | exact m_cellsIn _ | exact m_numberAt _ | exact m_viewAt _ | exact m_goPanic _ | exact m_unsupported _ | exact m_stuck _ | exact m_program | exact m_choose _ | exact m_setObj _ _ | exact m_getObj _ | exact m_frozen _ | exact m_freeze _ _ | exact m_shape _ | exact m_newObj _ | exact m_store _ _ _ | exact m_load _ _ | exact m_halt _ | exact m_pure _)
    | with_reducible refine m_map ?_
    | with_reducible refine m_bind ?_ (fun _ => ?_)
    | with_reducible refine m_ite ?_ ?_
    | refine m_forA (fun _ _ => ?_) _ _
    | refine m_forL (fun _ _ => ?_) _ _
    | refine m_forR (fun _ _ => ?_) _ _
    | refine m_mapA (fun _ => ?_) _
    | refine m_foldL (fun _ _ => ?_) _ _
    | split
    | dsimp only)

theorem m_sliceBounds (b : Bool) (l c : Nat) (x y z : Option Value) : M P ok (Instr.sliceBounds b l c x y z) := by
  unfold Instr.sliceBounds
  repeat' (first
    | with_reducible (first | assumption | exact m_sliceBound _ _ _ | exact m_indexAt _ _ _ | exact m_fieldAt _ _ _ | exact m_storeAt _ _ _ | exact m_loadAt _ _ | exact m_sureAddr _ | exact m_alloc _ _ _ | exact m_loadBytes _ _ _ | exact m_variablesAt _ _ _ | exact m_fieldPlace _ _ | exact m_partAt _ _ _ | exact m_byteOf _ | exact m_results _ _ | exact m_asAddr _ | exact m_asAgg _ | exact m_asString _ | exact m_asBool _ | exact m_asInt _ | exact m_asIntOf _ | exact m_boundsPanic _ _ _ _ | exact m_runtimePanic _ | exact m_part _ _ _ | exact m_elemOf _ | exact m_newVar _ _ | exact m_newRow _ _ | exact m_storeVar _ _ _ | exact m_loadVar _ _ | exact m_storeCells _ _ _ | exact m_loadCells _ _ | exact m_isAgg _ | exact m_sizeOf _ | exact m_zeroValue _ | exact m_typeStr _ | exact m_globalAddr _ | exact m_cutType _ | exact m_underlying _ | exact m_typeInfo _ | exact m_samePointer _ _ | exact m_sameAddr _ _ | exact m_mayBeOne _ _ | exact m_stringish _ | exact m_markStringish _ | exact m_noView _ | exact m_backFromNumber _ | exact m_behindNumber _ | exact m_asNumber _ _ | exact m_cellsIn _ | exact m_numberAt _ | exact m_viewAt _ | exact m_goPanic _ | exact m_unsupported _ | exact m_stuck _ | exact m_program | exact m_choose _ | exact m_setObj _ _ | exact m_getObj _ | exact m_frozen _ | exact m_freeze _ _ | exact m_shape _ | exact m_newObj _ | exact m_store _ _ _ | exact m_load _ _ | exact m_halt _ | exact m_pure _)
    | with_reducible refine m_map ?_
    | with_reducible refine m_bind ?_ (fun _ => ?_)
    | with_reducible refine m_ite ?_ ?_
    | refine m_forA (fun _ _ => ?_) _ _
    | refine m_forL (fun _ _ => ?_) _ _
    | refine m_forR (fun _ _ => ?_) _ _
    | refine m_mapA (fun _ => ?_) _
    | refine m_foldL (fun _ _ => ?_) _ _
    | split
    | dsimp only)

theorem m_slice (t : TypeId) (v : Value) (x y z : Option Value) : M P ok (Instr.slice t v x y z) := by
  unfold Instr.slice
  repeat' (first
    | with_reducible (first | assumption | exact m_sliceBounds _ _ _ _ _ _ | exact m_sliceBound _ _ _ | exact m_indexAt _ _ _ | exact m_fieldAt _ _ _ | exact m_storeAt _ _ _ | exact m_loadAt _ _ | exact m_sureAddr _ | exact m_alloc _ _ _ | exact m_loadBytes _ _ _ | exact m_variablesAt _ _ _ | exact m_fieldPlace _ _ | exact m_partAt _ _ _ | exact m_byteOf _ | exact m_results _ _ | exact m_asAddr _ | exact m_asAgg _ | exact m_asString _ | exact m_asBool _ | exact m_asInt _ | exact m_asIntOf _ | exact m_boundsPanic _ _ _ _ | exact m_runtimePanic _ | exact m_part _ _ _ | exact m_elemOf _ | exact m_newVar _ _ | exact m_newRow _ _ | exact m_storeVar _ _ _ | exact m_loadVar _ _ | exact m_storeCells _ _ _ | exact m_loadCells _ _ | exact m_isAgg _ | exact m_sizeOf _ | exact m_zeroValue _ | exact m_typeStr _ | exact m_globalAddr _ | exact m_cutType _ | exact m_underlying _ | exact m_typeInfo _ | exact m_samePointer _ _ | exact m_sameAddr _ _ | exact m_mayBeOne _ _ | exact m_stringish _ | exact m_markStringish _ | exact m_noView _ | exact m_backFromNumber _ | exact m_behindNumber _ | exact m_asNumber _ _ | exact m_cellsIn _ | exact m_numberAt _ | exact m_viewAt _ | exact m_goPanic _ | exact m_unsupported _ | exact m_stuck _ | exact m_program | exact m_choose _ | exact m_setObj _ _ | exact m_getObj _ | exact m_frozen _ | exact m_freeze _ _ | exact m_shape _ | exact m_newObj _ | exact m_store _ _ _ | exact m_load _ _ | exact m_halt _ | exact m_pure _)
    | with_reducible refine m_map ?_
    | with_reducible refine m_bind ?_ (fun _ => ?_)
    | with_reducible refine m_ite ?_ ?_
    | refine m_forA (fun _ _ => ?_) _ _
    | refine m_forL (fun _ _ => ?_) _ _
    | refine m_forR (fun _ _ => ?_) _ _
    | refine m_mapA (fun _ => ?_) _
    | refine m_foldL (fun _ _ => ?_) _ _
    | split
    | dsimp only)

theorem m_sliceAt (t : TypeId) (v : Value) (x y z : Option Value) : M P ok (Instr.sliceAt t v x y z) := by
  unfold Instr.sliceAt
  repeat' (first
    | with_reducible (first | assumption | exact m_slice _ _ _ _ _ | exact m_sliceBounds _ _ _ _ _ _ | exact m_sliceBound _ _ _ | exact m_indexAt _ _ _ | exact m_fieldAt _ _ _ | exact m_storeAt _ _ _ | exact m_loadAt _ _ | exact m_sureAddr _ | exact m_alloc _ _ _ | exact m_loadBytes _ _ _ | exact m_variablesAt _ _ _ | exact m_fieldPlace _ _ | exact m_partAt _ _ _ | exact m_byteOf _ | exact m_results _ _ | exact m_asAddr _ | exact m_asAgg _ | exact m_asString _ | exact m_asBool _ | exact m_asInt _ | exact m_asIntOf _ | exact m_boundsPanic _ _ _ _ | exact m_runtimePanic _ | exact m_part _ _ _ | exact m_elemOf _ | exact m_newVar _ _ | exact m_newRow _ _ | exact m_storeVar _ _ _ | exact m_loadVar _ _ | exact m_storeCells _ _ _ | exact m_loadCells _ _ | exact m_isAgg _ | exact m_sizeOf _ | exact m_zeroValue _ | exact m_typeStr _ | exact m_globalAddr _ | exact m_cutType _ | exact m_underlying _ | exact m_typeInfo _ | exact m_samePointer _ _ | exact m_sameAddr _ _ | exact m_mayBeOne _ _ | exact m_stringish _ | exact m_markStringish _ | exact m_noView _ | exact m_backFromNumber _ | exact m_behindNumber _ | exact m_asNumber _ _ | exact m_cellsIn _ | exact m_numberAt _ | exact m_viewAt _ | exact m_goPanic _ | exact m_unsupported _ | exact m_stuck _ | exact m_program | exact m_choose _ | exact m_setObj _ _ | exact m_getObj _ | exact m_frozen _ | exact m_freeze _ _ | exact m_shape _ | exact m_newObj _ | exact m_store _ _ _ | exact m_load _ _ | exact m_halt _ | exact m_pure _)
    | with_reducible refine m_map ?_
    | with_reducible refine m_bind ?_ (fun _ => ?_)
    | with_reducible refine m_ite ?_ ?_
    | refine m_forA (fun _ _ => ?_) _ _
    | refine m_forL (fun _ _ => ?_) _ _
    | refine m_forR (fun _ _ => ?_) _ _
    | refine m_mapA (fun _ => ?_) _
    | refine m_foldL (fun _ _ => ?_) _ _
    | split
    | dsimp only)

theorem m_box (t : TypeId) (v : Value) : M P ok (Instr.box t v) := by
  unfold Instr.box
  repeat' (first
    | with_reducible (first | assumption | exact m_sliceAt _ _ _ _ _ | exact m_slice _ _ _ _ _ | exact m_sliceBounds _ _ _ _ _ _ | exact m_sliceBound _ _ _ | exact m_indexAt _ _ _ | exact m_fieldAt _ _ _ | exact m_storeAt _ _ _ | exact m_loadAt _ _ | exact m_sureAddr _ | exact m_alloc _ _ _ | exact m_loadBytes _ _ _ | exact m_variablesAt _ _ _ | exact m_fieldPlace _ _ | exact m_partAt _ _ _ | exact m_byteOf _ | exact m_results _ _ | exact m_asAddr _ | exact m_asAgg _ | exact m_asString _ | exact m_asBool _ | exact m_asInt _ | exact m_asIntOf _ | exact m_boundsPanic _ _ _ _ | exact m_runtimePanic _ | exact m_part _ _ _ | exact m_elemOf _ | exact m_newVar _ _ | exact m_newRow _ _ | exact m_storeVar _ _ _ | exact m_loadVar _ _ | exact m_storeCells _ _ _ | exact m_loadCells _ _ | exact m_isAgg _ | exact m_sizeOf _ | exact m_zeroValue _ | exact m_typeStr _ | exact m_globalAddr _ | exact m_cutType _ | exact m_underlying _ | exact m_typeInfo _ | exact m_samePointer _ _ | exact m_sameAddr _ _ | exact m_mayBeOne _ _ | exact m_stringish _ | exact m_markStringish _ | exact m_noView _ | exact m_backFromNumber _ | exact m_behindNumber _ | exact m_asNumber _ _ | exact m_cellsIn _ | exact m_numberAt _ | exact m_viewAt _ | exact m_goPanic _ | exact m_unsupported _ | exact m_stuck _ | exact m_program | exact m_choose _ | exact m_setObj _ _ | exact m_getObj _ | exact m_frozen _ | exact m_freeze _ _ | exact m_shape _ | exact m_newObj _ | exact m_store _ _ _ | exact m_load _ _ | exact m_halt _ | exact m_pure _)
    | with_reducible refine m_map ?_
    | with_reducible refine m_bind ?_ (fun _ => ?_)
    | with_reducible refine m_ite ?_ ?_
    | refine m_forA (fun _ _ => ?_) _ _
    | refine m_forL (fun _ _ => ?_) _ _
    | refine m_forR (fun _ _ => ?_) _ _
    | refine m_mapA (fun _ => ?_) _
    | refine m_foldL (fun _ _ => ?_) _ _
    | split
    | dsimp only)

theorem m_build (t : TypeId) (p : Array (Nat × Value)) : M P ok (Instr.build t p) := by
  unfold Instr.build
  repeat' (first
    | with_reducible (first | assumption | exact m_box _ _ | exact m_sliceAt _ _ _ _ _ | exact m_slice _ _ _ _ _ | exact m_sliceBounds _ _ _ _ _ _ | exact m_sliceBound _ _ _ | exact m_indexAt _ _ _ | exact m_fieldAt _ _ _ | exact m_storeAt _ _ _ | exact m_loadAt _ _ | exact m_sureAddr _ | exact m_alloc _ _ _ | exact m_loadBytes _ _ _ | exact m_variablesAt _ _ _ | exact m_fieldPlace _ _ | exact m_partAt _ _ _ | exact m_byteOf _ | exact m_results _ _ | exact m_asAddr _ | exact m_asAgg _ | exact m_asString _ | exact m_asBool _ | exact m_asInt _ | exact m_asIntOf _ | exact m_boundsPanic _ _ _ _ | exact m_runtimePanic _ | exact m_part _ _ _ | exact m_elemOf _ | exact m_newVar _ _ | exact m_newRow _ _ | exact m_storeVar _ _ _ | exact m_loadVar _ _ | exact m_storeCells _ _ _ | exact m_loadCells _ _ | exact m_isAgg _ | exact m_sizeOf _ | exact m_zeroValue _ | exact m_typeStr _ | exact m_globalAddr _ | exact m_cutType _ | exact m_underlying _ | exact m_typeInfo _ | exact m_samePointer _ _ | exact m_sameAddr _ _ | exact m_mayBeOne _ _ | exact m_stringish _ | exact m_markStringish _ | exact m_noView _ | exact m_backFromNumber _ | exact m_behindNumber _ | exact m_asNumber _ _ | exact m_cellsIn _ | exact m_numberAt _ | exact m_viewAt _ | exact m_goPanic _ | exact m_unsupported _ | exact m_stuck _ | exact m_program | exact m_choose _ | exact m_setObj _ _ | exact m_getObj _ | exact m_frozen _ | exact m_freeze _ _ | exact m_shape _ | exact m_newObj _ | exact m_store _ _ _ | exact m_load _ _ | exact m_halt _ | exact m_pure _)
    | with_reducible refine m_map ?_
    | with_reducible refine m_bind ?_ (fun _ => ?_)
    | with_reducible refine m_ite ?_ ?_
    | refine m_forA (fun _ _ => ?_) _ _
    | refine m_forL (fun _ _ => ?_) _ _
    | refine m_forR (fun _ _ => ?_) _ _
    | refine m_mapA (fun _ => ?_) _
    | refine m_foldL (fun _ _ => ?_) _ _
    | split
    | dsimp only)

theorem m_buildSlice (t : TypeId) (n : Nat) (p : Array (Nat × Value)) : M P ok (Instr.buildSlice t n p) := by
  unfold Instr.buildSlice
  repeat' (first
    | with_reducible (first | assumption | exact m_build _ | exact m_box _ _ | exact m_sliceAt _ _ _ _ _ | exact m_slice _ _ _ _ _ | exact m_sliceBounds _ _ _ _ _ _ | exact m_sliceBound _ _ _ | exact m_indexAt _ _ _ | exact m_fieldAt _ _ _ | exact m_storeAt _ _ _ | exact m_loadAt _ _ | exact m_sureAddr _ | exact m_alloc _ _ _ | exact m_loadBytes _ _ _ | exact m_variablesAt _ _ _ | exact m_fieldPlace _ _ | exact m_partAt _ _ _ | exact m_byteOf _ | exact m_results _ _ | exact m_asAddr _ | exact m_asAgg _ | exact m_asString _ | exact m_asBool _ | exact m_asInt _ | exact m_asIntOf _ | exact m_boundsPanic _ _ _ _ | exact m_runtimePanic _ | exact m_part _ _ _ | exact m_elemOf _ | exact m_newVar _ _ | exact m_newRow _ _ | exact m_storeVar _ _ _ | exact m_loadVar _ _ | exact m_storeCells _ _ _ | exact m_loadCells _ _ | exact m_isAgg _ | exact m_sizeOf _ | exact m_zeroValue _ | exact m_typeStr _ | exact m_globalAddr _ | exact m_cutType _ | exact m_underlying _ | exact m_typeInfo _ | exact m_samePointer _ _ | exact m_sameAddr _ _ | exact m_mayBeOne _ _ | exact m_stringish _ | exact m_markStringish _ | exact m_noView _ | exact m_backFromNumber _ | exact m_behindNumber _ | exact m_asNumber _ _ | exact m_cellsIn _ | exact m_numberAt _ | exact m_viewAt _ | exact m_goPanic _ | exact m_unsupported _ | exact m_stuck _ | exact m_program | exact m_choose _ | exact m_setObj _ _ | exact m_getObj _ | exact m_frozen _ | exact m_freeze _ _ | exact m_shape _ | exact m_newObj _ | exact m_store _ _ _ | exact m_load _ _ | exact m_halt _ | exact m_pure _)
    | with_reducible refine m_map ?_
    | with_reducible refine m_bind ?_ (fun _ => ?_)
    | with_reducible refine m_ite ?_ ?_
    | refine m_forA (fun _ _ => ?_) _ _
    | refine m_forL (fun _ _ => ?_) _ _
    | refine m_forR (fun _ _ => ?_) _ _
    | refine m_mapA (fun _ => ?_) _
    | refine m_foldL (fun _ _ => ?_) _ _
    | split
    | dsimp only)

theorem m_makeSlice (hR : ok .noRoom) (t : TypeId) (l c : Value) : M P ok (Instr.makeSlice t l c) := by
  unfold Instr.makeSlice
  repeat' (first
    | with_reducible (first | assumption | exact m_askRoom hR _ | exact m_buildSlice _ _ | exact m_build _ | exact m_box _ _ | exact m_sliceAt _ _ _ _ _ | exact m_slice _ _ _ _ _ | exact m_sliceBounds _ _ _ _ _ _ | exact m_sliceBound _ _ _ | exact m_indexAt _ _ _ | exact m_fieldAt _ _ _ | exact m_storeAt _ _ _ | exact m_loadAt _ _ | exact m_sureAddr _ | exact m_alloc _ _ _ | exact m_loadBytes _ _ _ | exact m_variablesAt _ _ _ | exact m_fieldPlace _ _ | exact m_partAt _ _ _ | exact m_byteOf _ | exact m_results _ _ | exact m_asAddr _ | exact m_asAgg _ | exact m_asString _ | exact m_asBool _ | exact m_asInt _ | exact m_asIntOf _ | exact m_boundsPanic _ _ _ _ | exact m_runtimePanic _ | exact m_part _ _ _ | exact m_elemOf _ | exact m_newVar _ _ | exact m_newRow _ _ | exact m_storeVar _ _ _ | exact m_loadVar _ _ | exact m_storeCells _ _ _ | exact m_loadCells _ _ | exact m_isAgg _ | exact m_sizeOf _ | exact m_zeroValue _ | exact m_typeStr _ | exact m_globalAddr _ | exact m_cutType _ | exact m_underlying _ | exact m_typeInfo _ | exact m_samePointer _ _ | exact m_sameAddr _ _ | exact m_mayBeOne _ _ | exact m_stringish _ | exact m_markStringish _ | exact m_noView _ | exact m_backFromNumber _ | exact m_behindNumber _ | exact m_asNumber _ _ | exact m_cellsIn _ | exact m_numberAt _ | exact m_viewAt _ | exact m_goPanic _ | exact m_unsupported _ | exact m_stuck _ | exact m_program | exact m_choose _ | exact m_setObj _ _ | exact m_getObj _ | exact m_frozen _ | exact m_freeze _ _ | exact m_shape _ | exact m_newObj _ | exact m_store _ _ _ | exact m_load _ _ | exact m_halt _ | exact m_pure _)
    | with_reducible refine m_map ?_
    | with_reducible refine m_bind ?_ (fun _ => ?_)
    | with_reducible refine m_ite ?_ ?_
    | refine m_forA (fun _ _ => ?_) _ _
    | refine m_forL (fun _ _ => ?_) _ _
    | refine m_forR (fun _ _ => ?_) _ _
    | refine m_mapA (fun _ => ?_) _
    | refine m_foldL (fun _ _ => ?_) _ _
    | split
    | dsimp only)

theorem m_extract (v : Value) (i : Nat) : M P ok (Instr.extract v i) := by
  unfold Instr.extract
  repeat' (first
    | with_reducible (first | assumption | exact m_makeSlice hR _ _ _ | exact m_buildSlice _ _ | exact m_build _ | exact m_box _ _ | exact m_sliceAt _ _ _ _ _ | exact m_slice _ _ _ _ _ | exact m_sliceBounds _ _ _ _ _ _ | exact m_sliceBound _ _ _ | exact m_indexAt _ _ _ | exact m_fieldAt _ _ _ | exact m_storeAt _ _ _ | exact m_loadAt _ _ | exact m_sureAddr _ | exact m_alloc _ _ _ | exact m_loadBytes _ _ _ | exact m_variablesAt _ _ _ | exact m_fieldPlace _ _ | exact m_partAt _ _ _ | exact m_byteOf _ | exact m_results _ _ | exact m_asAddr _ | exact m_asAgg _ | exact m_asString _ | exact m_asBool _ | exact m_asInt _ | exact m_asIntOf _ | exact m_boundsPanic _ _ _ _ | exact m_runtimePanic _ | exact m_part _ _ _ | exact m_elemOf _ | exact m_newVar _ _ | exact m_newRow _ _ | exact m_storeVar _ _ _ | exact m_loadVar _ _ | exact m_storeCells _ _ _ | exact m_loadCells _ _ | exact m_isAgg _ | exact m_sizeOf _ | exact m_zeroValue _ | exact m_typeStr _ | exact m_globalAddr _ | exact m_cutType _ | exact m_underlying _ | exact m_typeInfo _ | exact m_samePointer _ _ | exact m_sameAddr _ _ | exact m_mayBeOne _ _ | exact m_stringish _ | exact m_markStringish _ | exact m_noView _ | exact m_backFromNumber _ | exact m_behindNumber _ | exact m_asNumber _ _ | exact m_cellsIn _ | exact m_numberAt _ | exact m_viewAt _ | exact m_goPanic _ | exact m_unsupported _ | exact m_stuck _ | exact m_program | exact m_choose _ | exact m_setObj _ _ | exact m_getObj _ | exact m_frozen _ | exact m_freeze _ _ | exact m_shape _ | exact m_newObj _ | exact m_store _ _ _ | exact m_load _ _ | exact m_halt _ | exact m_pure _)
    | with_reducible refine m_map ?_
    | with_reducible refine m_bind ?_ (fun _ => ?_)
    | with_reducible refine m_ite ?_ ?_
    | refine m_forA (fun _ _ => ?_) _ _
    | refine m_forL (fun _ _ => ?_) _ _
    | refine m_forR (fun _ _ => ?_) _ _
    | refine m_mapA (fun _ => ?_) _
    | refine m_foldL (fun _ _ => ?_) _ _
    | split
    | dsimp only)

theorem m_index (t : TypeId) (v i : Value) : M P ok (Instr.index t v i) := by
  unfold Instr.index
  repeat' (first
    | with_reducible (first | assumption | exact m_extract _ _ | exact m_makeSlice hR _ _ _ | exact m_buildSlice _ _ | exact m_build _ | exact m_box _ _ | exact m_sliceAt _ _ _ _ _ | exact m_slice _ _ _ _ _ | exact m_sliceBounds _ _ _ _ _ _ | exact m_sliceBound _ _ _ | exact m_indexAt _ _ _ | exact m_fieldAt _ _ _ | exact m_storeAt _ _ _ | exact m_loadAt _ _ | exact m_sureAddr _ | exact m_alloc _ _ _ | exact m_loadBytes _ _ _ | exact m_variablesAt _ _ _ | exact m_fieldPlace _ _ | exact m_partAt _ _ _ | exact m_byteOf _ | exact m_results _ _ | exact m_asAddr _ | exact m_asAgg _ | exact m_asString _ | exact m_asBool _ | exact m_asInt _ | exact m_asIntOf _ | exact m_boundsPanic _ _ _ _ | exact m_runtimePanic _ | exact m_part _ _ _ | exact m_elemOf _ | exact m_newVar _ _ | exact m_newRow _ _ | exact m_storeVar _ _ _ | exact m_loadVar _ _ | exact m_storeCells _ _ _ | exact m_loadCells _ _ | exact m_isAgg _ | exact m_sizeOf _ | exact m_zeroValue _ | exact m_typeStr _ | exact m_globalAddr _ | exact m_cutType _ | exact m_underlying _ | exact m_typeInfo _ | exact m_samePointer _ _ | exact m_sameAddr _ _ | exact m_mayBeOne _ _ | exact m_stringish _ | exact m_markStringish _ | exact m_noView _ | exact m_backFromNumber _ | exact m_behindNumber _ | exact m_asNumber _ _ | exact m_cellsIn _ | exact m_numberAt _ | exact m_viewAt _ | exact m_goPanic _ | exact m_unsupported _ | exact m_stuck _ | exact m_program | exact m_choose _ | exact m_setObj _ _ | exact m_getObj _ | exact m_frozen _ | exact m_freeze _ _ | exact m_shape _ | exact m_newObj _ | exact m_store _ _ _ | exact m_load _ _ | exact m_halt _ | exact m_pure _)
    | with_reducible refine m_map ?_
    | with_reducible refine m_bind ?_ (fun _ => ?_)
    | with_reducible refine m_ite ?_ ?_
    | refine m_forA (fun _ _ => ?_) _ _
    | refine m_forL (fun _ _ => ?_) _ _
    | refine m_forR (fun _ _ => ?_) _ _
    | refine m_mapA (fun _ => ?_) _
    | refine m_foldL (fun _ _ => ?_) _ _
    | split
    | dsimp only)

theorem m_field (t : TypeId) (v : Value) (i : Nat) : M P ok (Instr.field t v i) := by
  unfold Instr.field
  repeat' (first
    | with_reducible (first | assumption | exact m_index _ _ _ | exact m_extract _ _ | exact m_makeSlice hR _ _ _ | exact m_buildSlice _ _ | exact m_build _ | exact m_box _ _ | exact m_sliceAt _ _ _ _ _ | exact m_slice _ _ _ _ _ | exact m_sliceBounds _ _ _ _ _ _ | exact m_sliceBound _ _ _ | exact m_indexAt _ _ _ | exact m_fieldAt _ _ _ | exact m_storeAt _ _ _ | exact m_loadAt _ _ | exact m_sureAddr _ | exact m_alloc _ _ _ | exact m_loadBytes _ _ _ | exact m_variablesAt _ _ _ | exact m_fieldPlace _ _ | exact m_partAt _ _ _ | exact m_byteOf _ | exact m_results _ _ | exact m_asAddr _ | exact m_asAgg _ | exact m_asString _ | exact m_asBool _ | exact m_asInt _ | exact m_asIntOf _ | exact m_boundsPanic _ _ _ _ | exact m_runtimePanic _ | exact m_part _ _ _ | exact m_elemOf _ | exact m_newVar _ _ | exact m_newRow _ _ | exact m_storeVar _ _ _ | exact m_loadVar _ _ | exact m_storeCells _ _ _ | exact m_loadCells _ _ | exact m_isAgg _ | exact m_sizeOf _ | exact m_zeroValue _ | exact m_typeStr _ | exact m_globalAddr _ | exact m_cutType _ | exact m_underlying _ | exact m_typeInfo _ | exact m_samePointer _ _ | exact m_sameAddr _ _ | exact m_mayBeOne _ _ | exact m_stringish _ | exact m_markStringish _ | exact m_noView _ | exact m_backFromNumber _ | exact m_behindNumber _ | exact m_asNumber _ _ | exact m_cellsIn _ | exact m_numberAt _ | exact m_viewAt _ | exact m_goPanic _ | exact m_unsupported _ | exact m_stuck _ | exact m_program | exact m_choose _ | exact m_setObj _ _ | exact m_getObj _ | exact m_frozen _ | exact m_freeze _ _ | exact m_shape _ | exact m_newObj _ | exact m_store _ _ _ | exact m_load _ _ | exact m_halt _ | exact m_pure _)
    | with_reducible refine m_map ?_
    | with_reducible refine m_bind ?_ (fun _ => ?_)
    | with_reducible refine m_ite ?_ ?_
    | refine m_forA (fun _ _ => ?_) _ _
    | refine m_forL (fun _ _ => ?_) _ _
    | refine m_forR (fun _ _ => ?_) _ _
    | refine m_mapA (fun _ => ?_) _
    | refine m_foldL (fun _ _ => ?_) _ _
    | split
    | dsimp only)

theorem m_makeInterface (t : TypeId) (v : Value) : M P ok (Instr.makeInterface t v) := by
  unfold Instr.makeInterface
  repeat' (first
    | with_reducible (first | assumption | exact m_field _ _ _ | exact m_index _ _ _ | exact m_extract _ _ | exact m_makeSlice hR _ _ _ | exact m_buildSlice _ _ | exact m_build _ | exact m_box _ _ | exact m_sliceAt _ _ _ _ _ | exact m_slice _ _ _ _ _ | exact m_sliceBounds _ _ _ _ _ _ | exact m_sliceBound _ _ _ | exact m_indexAt _ _ _ | exact m_fieldAt _ _ _ | exact m_storeAt _ _ _ | exact m_loadAt _ _ | exact m_sureAddr _ | exact m_alloc _ _ _ | exact m_loadBytes _ _ _ | exact m_variablesAt _ _ _ | exact m_fieldPlace _ _ | exact m_partAt _ _ _ | exact m_byteOf _ | exact m_results _ _ | exact m_asAddr _ | exact m_asAgg _ | exact m_asString _ | exact m_asBool _ | exact m_asInt _ | exact m_asIntOf _ | exact m_boundsPanic _ _ _ _ | exact m_runtimePanic _ | exact m_part _ _ _ | exact m_elemOf _ | exact m_newVar _ _ | exact m_newRow _ _ | exact m_storeVar _ _ _ | exact m_loadVar _ _ | exact m_storeCells _ _ _ | exact m_loadCells _ _ | exact m_isAgg _ | exact m_sizeOf _ | exact m_zeroValue _ | exact m_typeStr _ | exact m_globalAddr _ | exact m_cutType _ | exact m_underlying _ | exact m_typeInfo _ | exact m_samePointer _ _ | exact m_sameAddr _ _ | exact m_mayBeOne _ _ | exact m_stringish _ | exact m_markStringish _ | exact m_noView _ | exact m_backFromNumber _ | exact m_behindNumber _ | exact m_asNumber _ _ | exact m_cellsIn _ | exact m_numberAt _ | exact m_viewAt _ | exact m_goPanic _ | exact m_unsupported _ | exact m_stuck _ | exact m_program | exact m_choose _ | exact m_setObj _ _ | exact m_getObj _ | exact m_frozen _ | exact m_freeze _ _ | exact m_shape _ | exact m_newObj _ | exact m_store _ _ _ | exact m_load _ _ | exact m_halt _ | exact m_pure _)
    | with_reducible refine m_map ?_
    | with_reducible refine m_bind ?_ (fun _ => ?_)
    | with_reducible refine m_ite ?_ ?_
    | refine m_forA (fun _ _ => ?_) _ _
    | refine m_forL (fun _ _ => ?_) _ _
    | refine m_forR (fun _ _ => ?_) _ _
    | refine m_mapA (fun _ => ?_) _
    | refine m_foldL (fun _ _ => ?_) _ _
    | split
    | dsimp only)

theorem m_makeFunc (f : Fn) (a b : Array Value) : M P ok (Instr.makeFunc f a b) := by
  unfold Instr.makeFunc
  repeat' (first
    | with_reducible (first | assumption | exact m_makeInterface _ _ | exact m_field _ _ _ | exact m_index _ _ _ | exact m_extract _ _ | exact m_makeSlice hR _ _ _ | exact m_buildSlice _ _ | exact m_build _ | exact m_box _ _ | exact m_sliceAt _ _ _ _ _ | exact m_slice _ _ _ _ _ | exact m_sliceBounds _ _ _ _ _ _ | exact m_sliceBound _ _ _ | exact m_indexAt _ _ _ | exact m_fieldAt _ _ _ | exact m_storeAt _ _ _ | exact m_loadAt _ _ | exact m_sureAddr _ | exact m_alloc _ _ _ | exact m_loadBytes _ _ _ | exact m_variablesAt _ _ _ | exact m_fieldPlace _ _ | exact m_partAt _ _ _ | exact m_byteOf _ | exact m_results _ _ | exact m_asAddr _ | exact m_asAgg _ | exact m_asString _ | exact m_asBool _ | exact m_asInt _ | exact m_asIntOf _ | exact m_boundsPanic _ _ _ _ | exact m_runtimePanic _ | exact m_part _ _ _ | exact m_elemOf _ | exact m_newVar _ _ | exact m_newRow _ _ | exact m_storeVar _ _ _ | exact m_loadVar _ _ | exact m_storeCells _ _ _ | exact m_loadCells _ _ | exact m_isAgg _ | exact m_sizeOf _ | exact m_zeroValue _ | exact m_typeStr _ | exact m_globalAddr _ | exact m_cutType _ | exact m_underlying _ | exact m_typeInfo _ | exact m_samePointer _ _ | exact m_sameAddr _ _ | exact m_mayBeOne _ _ | exact m_stringish _ | exact m_markStringish _ | exact m_noView _ | exact m_backFromNumber _ | exact m_behindNumber _ | exact m_asNumber _ _ | exact m_cellsIn _ | exact m_numberAt _ | exact m_viewAt _ | exact m_goPanic _ | exact m_unsupported _ | exact m_stuck _ | exact m_program | exact m_choose _ | exact m_setObj _ _ | exact m_getObj _ | exact m_frozen _ | exact m_freeze _ _ | exact m_shape _ | exact m_newObj _ | exact m_store _ _ _ | exact m_load _ _ | exact m_halt _ | exact m_pure _)
    | with_reducible refine m_map ?_
    | with_reducible refine m_bind ?_ (fun _ => ?_)
    | with_reducible refine m_ite ?_ ?_
    | refine m_forA (fun _ _ => ?_) _ _
    | refine m_forL (fun _ _ => ?_) _ _
    | refine m_forR (fun _ _ => ?_) _ _
    | refine m_mapA (fun _ => ?_) _
    | refine m_foldL (fun _ _ => ?_) _ _
    | split
    | dsimp only)

theorem m_typeAssert (x : Value) (s t : TypeId) (b : Bool) : M P ok (Instr.typeAssert x s t b) := by
  unfold Instr.typeAssert
  repeat' (first
    | with_reducible (first | assumption | exact m_makeFunc _ _ _ | exact m_makeInterface _ _ | exact m_field _ _ _ | exact m_index _ _ _ | exact m_extract _ _ | exact m_makeSlice hR _ _ _ | exact m_buildSlice _ _ | exact m_build _ | exact m_box _ _ | exact m_sliceAt _ _ _ _ _ | exact m_slice _ _ _ _ _ | exact m_sliceBounds _ _ _ _ _ _ | exact m_sliceBound _ _ _ | exact m_indexAt _ _ _ | exact m_fieldAt _ _ _ | exact m_storeAt _ _ _ | exact m_loadAt _ _ | exact m_sureAddr _ | exact m_alloc _ _ _ | exact m_loadBytes _ _ _ | exact m_variablesAt _ _ _ | exact m_fieldPlace _ _ | exact m_partAt _ _ _ | exact m_byteOf _ | exact m_results _ _ | exact m_asAddr _ | exact m_asAgg _ | exact m_asString _ | exact m_asBool _ | exact m_asInt _ | exact m_asIntOf _ | exact m_boundsPanic _ _ _ _ | exact m_runtimePanic _ | exact m_part _ _ _ | exact m_elemOf _ | exact m_newVar _ _ | exact m_newRow _ _ | exact m_storeVar _ _ _ | exact m_loadVar _ _ | exact m_storeCells _ _ _ | exact m_loadCells _ _ | exact m_isAgg _ | exact m_sizeOf _ | exact m_zeroValue _ | exact m_typeStr _ | exact m_globalAddr _ | exact m_cutType _ | exact m_underlying _ | exact m_typeInfo _ | exact m_samePointer _ _ | exact m_sameAddr _ _ | exact m_mayBeOne _ _ | exact m_stringish _ | exact m_markStringish _ | exact m_noView _ | exact m_backFromNumber _ | exact m_behindNumber _ | exact m_asNumber _ _ | exact m_cellsIn _ | exact m_numberAt _ | exact m_viewAt _ | exact m_goPanic _ | exact m_unsupported _ | exact m_stuck _ | exact m_program | exact m_choose _ | exact m_setObj _ _ | exact m_getObj _ | exact m_frozen _ | exact m_freeze _ _ | exact m_shape _ | exact m_newObj _ | exact m_store _ _ _ | exact m_load _ _ | exact m_halt _ | exact m_pure _)
    | with_reducible refine m_map ?_
    | with_reducible refine m_bind ?_ (fun _ => ?_)
    | with_reducible refine m_ite ?_ ?_
    | refine m_forA (fun _ _ => ?_) _ _
    | refine m_forL (fun _ _ => ?_) _ _
    | refine m_forR (fun _ _ => ?_) _ _
    | refine m_mapA (fun _ => ?_) _
    | refine m_foldL (fun _ _ => ?_) _ _
    | split
    | dsimp only)

theorem m_intArith (o : BinOp) (k : IntKind) (x y : Int) : M P ok (Op.intArith o k x y) := by
  unfold Op.intArith
  repeat' (first
    | with_reducible (first | assumption | exact m_typeAssert _ _ _ _ | exact m_makeFunc _ _ _ | exact m_makeInterface _ _ | exact m_field _ _ _ | exact m_index _ _ _ | exact m_extract _ _ | exact m_makeSlice hR _ _ _ | exact m_buildSlice _ _ | exact m_build _ | exact m_box _ _ | exact m_sliceAt _ _ _ _ _ | exact m_slice _ _ _ _ _ | exact m_sliceBounds _ _ _ _ _ _ | exact m_sliceBound _ _ _ | exact m_indexAt _ _ _ | exact m_fieldAt _ _ _ | exact m_storeAt _ _ _ | exact m_loadAt _ _ | exact m_sureAddr _ | exact m_alloc _ _ _ | exact m_loadBytes _ _ _ | exact m_variablesAt _ _ _ | exact m_fieldPlace _ _ | exact m_partAt _ _ _ | exact m_byteOf _ | exact m_results _ _ | exact m_asAddr _ | exact m_asAgg _ | exact m_asString _ | exact m_asBool _ | exact m_asInt _ | exact m_asIntOf _ | exact m_boundsPanic _ _ _ _ | exact m_runtimePanic _ | exact m_part _ _ _ | exact m_elemOf _ | exact m_newVar _ _ | exact m_newRow _ _ | exact m_storeVar _ _ _ | exact m_loadVar _ _ | exact m_storeCells _ _ _ | exact m_loadCells _ _ | exact m_isAgg _ | exact m_sizeOf _ | exact m_zeroValue _ | exact m_typeStr _ | exact m_globalAddr _ | exact m_cutType _ | exact m_underlying _ | exact m_typeInfo _ | exact m_samePointer _ _ | exact m_sameAddr _ _ | exact m_mayBeOne _ _ | exact m_stringish _ | exact m_markStringish _ | exact m_noView _ | exact m_backFromNumber _ | exact m_behindNumber _ | exact m_asNumber _ _ | exact m_cellsIn _ | exact m_numberAt _ | exact m_viewAt _ | exact m_goPanic _ | exact m_unsupported _ | exact m_stuck _ | exact m_program | exact m_choose _ | exact m_setObj _ _ | exact m_getObj _ | exact m_frozen _ | exact m_freeze _ _ | exact m_shape _ | exact m_newObj _ | exact m_store _ _ _ | exact m_load _ _ | exact m_halt _ | exact m_pure _)
    | with_reducible refine m_map ?_
    | with_reducible refine m_bind ?_ (fun _ => ?_)
    | with_reducible refine m_ite ?_ ?_
    | refine m_forA (fun _ _ => ?_) _ _
    | refine m_forL (fun _ _ => ?_) _ _
    | refine m_forR (fun _ _ => ?_) _ _
    | refine m_mapA (fun _ => ?_) _
    | refine m_foldL (fun _ _ => ?_) _ _
    | split
    | dsimp only)

theorem m_intDiv (o : BinOp) (k : IntKind) (x y : Int) : M P ok (Op.intDiv o k x y) := by
  unfold Op.intDiv
  repeat' (first
    | with_reducible (first | assumption | exact m_intArith _ _ _ _ | exact m_typeAssert _ _ _ _ | exact m_makeFunc _ _ _ | exact m_makeInterface _ _ | exact m_field _ _ _ | exact m_index _ _ _ | exact m_extract _ _ | exact m_makeSlice hR _ _ _ | exact m_buildSlice _ _ | exact m_build _ | exact m_box _ _ | exact m_sliceAt _ _ _ _ _ | exact m_slice _ _ _ _ _ | exact m_sliceBounds _ _ _ _ _ _ | exact m_sliceBound _ _ _ | exact m_indexAt _ _ _ | exact m_fieldAt _ _ _ | exact m_storeAt _ _ _ | exact m_loadAt _ _ | exact m_sureAddr _ | exact m_alloc _ _ _ | exact m_loadBytes _ _ _ | exact m_variablesAt _ _ _ | exact m_fieldPlace _ _ | exact m_partAt _ _ _ | exact m_byteOf _ | exact m_results _ _ | exact m_asAddr _ | exact m_asAgg _ | exact m_asString _ | exact m_asBool _ | exact m_asInt _ | exact m_asIntOf _ | exact m_boundsPanic _ _ _ _ | exact m_runtimePanic _ | exact m_part _ _ _ | exact m_elemOf _ | exact m_newVar _ _ | exact m_newRow _ _ | exact m_storeVar _ _ _ | exact m_loadVar _ _ | exact m_storeCells _ _ _ | exact m_loadCells _ _ | exact m_isAgg _ | exact m_sizeOf _ | exact m_zeroValue _ | exact m_typeStr _ | exact m_globalAddr _ | exact m_cutType _ | exact m_underlying _ | exact m_typeInfo _ | exact m_samePointer _ _ | exact m_sameAddr _ _ | exact m_mayBeOne _ _ | exact m_stringish _ | exact m_markStringish _ | exact m_noView _ | exact m_backFromNumber _ | exact m_behindNumber _ | exact m_asNumber _ _ | exact m_cellsIn _ | exact m_numberAt _ | exact m_viewAt _ | exact m_goPanic _ | exact m_unsupported _ | exact m_stuck _ | exact m_program | exact m_choose _ | exact m_setObj _ _ | exact m_getObj _ | exact m_frozen _ | exact m_freeze _ _ | exact m_shape _ | exact m_newObj _ | exact m_store _ _ _ | exact m_load _ _ | exact m_halt _ | exact m_pure _)
    | with_reducible refine m_map ?_
    | with_reducible refine m_bind ?_ (fun _ => ?_)
    | with_reducible refine m_ite ?_ ?_
    | refine m_forA (fun _ _ => ?_) _ _
    | refine m_forL (fun _ _ => ?_) _ _
    | refine m_forR (fun _ _ => ?_) _ _
    | refine m_mapA (fun _ => ?_) _
    | refine m_foldL (fun _ _ => ?_) _ _
    | split
    | dsimp only)

theorem m_intBits (o : BinOp) (k : IntKind) (x y : Int) : M P ok (Op.intBits o k x y) := by
  unfold Op.intBits
  repeat' (first
    | with_reducible (first | assumption | exact m_intDiv _ _ _ _ | exact m_intArith _ _ _ _ | exact m_typeAssert _ _ _ _ | exact m_makeFunc _ _ _ | exact m_makeInterface _ _ | exact m_field _ _ _ | exact m_index _ _ _ | exact m_extract _ _ | exact m_makeSlice hR _ _ _ | exact m_buildSlice _ _ | exact m_build _ | exact m_box _ _ | exact m_sliceAt _ _ _ _ _ | exact m_slice _ _ _ _ _ | exact m_sliceBounds _ _ _ _ _ _ | exact m_sliceBound _ _ _ | exact m_indexAt _ _ _ | exact m_fieldAt _ _ _ | exact m_storeAt _ _ _ | exact m_loadAt _ _ | exact m_sureAddr _ | exact m_alloc _ _ _ | exact m_loadBytes _ _ _ | exact m_variablesAt _ _ _ | exact m_fieldPlace _ _ | exact m_partAt _ _ _ | exact m_byteOf _ | exact m_results _ _ | exact m_asAddr _ | exact m_asAgg _ | exact m_asString _ | exact m_asBool _ | exact m_asInt _ | exact m_asIntOf _ | exact m_boundsPanic _ _ _ _ | exact m_runtimePanic _ | exact m_part _ _ _ | exact m_elemOf _ | exact m_newVar _ _ | exact m_newRow _ _ | exact m_storeVar _ _ _ | exact m_loadVar _ _ | exact m_storeCells _ _ _ | exact m_loadCells _ _ | exact m_isAgg _ | exact m_sizeOf _ | exact m_zeroValue _ | exact m_typeStr _ | exact m_globalAddr _ | exact m_cutType _ | exact m_underlying _ | exact m_typeInfo _ | exact m_samePointer _ _ | exact m_sameAddr _ _ | exact m_mayBeOne _ _ | exact m_stringish _ | exact m_markStringish _ | exact m_noView _ | exact m_backFromNumber _ | exact m_behindNumber _ | exact m_asNumber _ _ | exact m_cellsIn _ | exact m_numberAt _ | exact m_viewAt _ | exact m_goPanic _ | exact m_unsupported _ | exact m_stuck _ | exact m_program | exact m_choose _ | exact m_setObj _ _ | exact m_getObj _ | exact m_frozen _ | exact m_freeze _ _ | exact m_shape _ | exact m_newObj _ | exact m_store _ _ _ | exact m_load _ _ | exact m_halt _ | exact m_pure _)
    | with_reducible refine m_map ?_
    | with_reducible refine m_bind ?_ (fun _ => ?_)
    | with_reducible refine m_ite ?_ ?_
    | refine m_forA (fun _ _ => ?_) _ _
    | refine m_forL (fun _ _ => ?_) _ _
    | refine m_forR (fun _ _ => ?_) _ _
    | refine m_mapA (fun _ => ?_) _
    | refine m_foldL (fun _ _ => ?_) _ _
    | split
    | dsimp only)

theorem m_shift (o : BinOp) (k : IntKind) (x : Int) (k2 : IntKind) (y : Int) : M P ok (Op.shift o k x k2 y) := by
  unfold Op.shift
  repeat' (first
    | with_reducible (first | assumption | exact m_intBits _ _ _ _ | exact m_intDiv _ _ _ _ | exact m_intArith _ _ _ _ | exact m_typeAssert _ _ _ _ | exact m_makeFunc _ _ _ | exact m_makeInterface _ _ | exact m_field _ _ _ | exact m_index _ _ _ | exact m_extract _ _ | exact m_makeSlice hR _ _ _ | exact m_buildSlice _ _ | exact m_build _ | exact m_box _ _ | exact m_sliceAt _ _ _ _ _ | exact m_slice _ _ _ _ _ | exact m_sliceBounds _ _ _ _ _ _ | exact m_sliceBound _ _ _ | exact m_indexAt _ _ _ | exact m_fieldAt _ _ _ | exact m_storeAt _ _ _ | exact m_loadAt _ _ | exact m_sureAddr _ | exact m_alloc _ _ _ | exact m_loadBytes _ _ _ | exact m_variablesAt _ _ _ | exact m_fieldPlace _ _ | exact m_partAt _ _ _ | exact m_byteOf _ | exact m_results _ _ | exact m_asAddr _ | exact m_asAgg _ | exact m_asString _ | exact m_asBool _ | exact m_asInt _ | exact m_asIntOf _ | exact m_boundsPanic _ _ _ _ | exact m_runtimePanic _ | exact m_part _ _ _ | exact m_elemOf _ | exact m_newVar _ _ | exact m_newRow _ _ | exact m_storeVar _ _ _ | exact m_loadVar _ _ | exact m_storeCells _ _ _ | exact m_loadCells _ _ | exact m_isAgg _ | exact m_sizeOf _ | exact m_zeroValue _ | exact m_typeStr _ | exact m_globalAddr _ | exact m_cutType _ | exact m_underlying _ | exact m_typeInfo _ | exact m_samePointer _ _ | exact m_sameAddr _ _ | exact m_mayBeOne _ _ | exact m_stringish _ | exact m_markStringish _ | exact m_noView _ | exact m_backFromNumber _ | exact m_behindNumber _ | exact m_asNumber _ _ | exact m_cellsIn _ | exact m_numberAt _ | exact m_viewAt _ | exact m_goPanic _ | exact m_unsupported _ | exact m_stuck _ | exact m_program | exact m_choose _ | exact m_setObj _ _ | exact m_getObj _ | exact m_frozen _ | exact m_freeze _ _ | exact m_shape _ | exact m_newObj _ | exact m_store _ _ _ | exact m_load _ _ | exact m_halt _ | exact m_pure _)
    | with_reducible refine m_map ?_
    | with_reducible refine m_bind ?_ (fun _ => ?_)
    | with_reducible refine m_ite ?_ ?_
    | refine m_forA (fun _ _ => ?_) _ _
    | refine m_forL (fun _ _ => ?_) _ _
    | refine m_forR (fun _ _ => ?_) _ _
    | refine m_mapA (fun _ => ?_) _
    | refine m_foldL (fun _ _ => ?_) _ _
    | split
    | dsimp only)

theorem m_intCmp (o : BinOp) (x y : Int) : M P ok (Op.intCmp o x y) := by
  unfold Op.intCmp
  repeat' (first
    | with_reducible (first | assumption | exact m_shift _ _ _ _ _ | exact m_intBits _ _ _ _ | exact m_intDiv _ _ _ _ | exact m_intArith _ _ _ _ | exact m_typeAssert _ _ _ _ | exact m_makeFunc _ _ _ | exact m_makeInterface _ _ | exact m_field _ _ _ | exact m_index _ _ _ | exact m_extract _ _ | exact m_makeSlice hR _ _ _ | exact m_buildSlice _ _ | exact m_build _ | exact m_box _ _ | exact m_sliceAt _ _ _ _ _ | exact m_slice _ _ _ _ _ | exact m_sliceBounds _ _ _ _ _ _ | exact m_sliceBound _ _ _ | exact m_indexAt _ _ _ | exact m_fieldAt _ _ _ | exact m_storeAt _ _ _ | exact m_loadAt _ _ | exact m_sureAddr _ | exact m_alloc _ _ _ | exact m_loadBytes _ _ _ | exact m_variablesAt _ _ _ | exact m_fieldPlace _ _ | exact m_partAt _ _ _ | exact m_byteOf _ | exact m_results _ _ | exact m_asAddr _ | exact m_asAgg _ | exact m_asString _ | exact m_asBool _ | exact m_asInt _ | exact m_asIntOf _ | exact m_boundsPanic _ _ _ _ | exact m_runtimePanic _ | exact m_part _ _ _ | exact m_elemOf _ | exact m_newVar _ _ | exact m_newRow _ _ | exact m_storeVar _ _ _ | exact m_loadVar _ _ | exact m_storeCells _ _ _ | exact m_loadCells _ _ | exact m_isAgg _ | exact m_sizeOf _ | exact m_zeroValue _ | exact m_typeStr _ | exact m_globalAddr _ | exact m_cutType _ | exact m_underlying _ | exact m_typeInfo _ | exact m_samePointer _ _ | exact m_sameAddr _ _ | exact m_mayBeOne _ _ | exact m_stringish _ | exact m_markStringish _ | exact m_noView _ | exact m_backFromNumber _ | exact m_behindNumber _ | exact m_asNumber _ _ | exact m_cellsIn _ | exact m_numberAt _ | exact m_viewAt _ | exact m_goPanic _ | exact m_unsupported _ | exact m_stuck _ | exact m_program | exact m_choose _ | exact m_setObj _ _ | exact m_getObj _ | exact m_frozen _ | exact m_freeze _ _ | exact m_shape _ | exact m_newObj _ | exact m_store _ _ _ | exact m_load _ _ | exact m_halt _ | exact m_pure _)
    | with_reducible refine m_map ?_
    | with_reducible refine m_bind ?_ (fun _ => ?_)
    | with_reducible refine m_ite ?_ ?_
    | refine m_forA (fun _ _ => ?_) _ _
    | refine m_forL (fun _ _ => ?_) _ _
    | refine m_forR (fun _ _ => ?_) _ _
    | refine m_mapA (fun _ => ?_) _
    | refine m_foldL (fun _ _ => ?_) _ _
    | split
    | dsimp only)

theorem m_floatArith (o : BinOp) (k : FloatKind) (x y : Nat) : M P ok (Op.floatArith o k x y) := by
  unfold Op.floatArith
  repeat' (first
    | with_reducible (first | assumption | exact m_intCmp _ _ _ | exact m_shift _ _ _ _ _ | exact m_intBits _ _ _ _ | exact m_intDiv _ _ _ _ | exact m_intArith _ _ _ _ | exact m_typeAssert _ _ _ _ | exact m_makeFunc _ _ _ | exact m_makeInterface _ _ | exact m_field _ _ _ | exact m_index _ _ _ | exact m_extract _ _ | exact m_makeSlice hR _ _ _ | exact m_buildSlice _ _ | exact m_build _ | exact m_box _ _ | exact m_sliceAt _ _ _ _ _ | exact m_slice _ _ _ _ _ | exact m_sliceBounds _ _ _ _ _ _ | exact m_sliceBound _ _ _ | exact m_indexAt _ _ _ | exact m_fieldAt _ _ _ | exact m_storeAt _ _ _ | exact m_loadAt _ _ | exact m_sureAddr _ | exact m_alloc _ _ _ | exact m_loadBytes _ _ _ | exact m_variablesAt _ _ _ | exact m_fieldPlace _ _ | exact m_partAt _ _ _ | exact m_byteOf _ | exact m_results _ _ | exact m_asAddr _ | exact m_asAgg _ | exact m_asString _ | exact m_asBool _ | exact m_asInt _ | exact m_asIntOf _ | exact m_boundsPanic _ _ _ _ | exact m_runtimePanic _ | exact m_part _ _ _ | exact m_elemOf _ | exact m_newVar _ _ | exact m_newRow _ _ | exact m_storeVar _ _ _ | exact m_loadVar _ _ | exact m_storeCells _ _ _ | exact m_loadCells _ _ | exact m_isAgg _ | exact m_sizeOf _ | exact m_zeroValue _ | exact m_typeStr _ | exact m_globalAddr _ | exact m_cutType _ | exact m_underlying _ | exact m_typeInfo _ | exact m_samePointer _ _ | exact m_sameAddr _ _ | exact m_mayBeOne _ _ | exact m_stringish _ | exact m_markStringish _ | exact m_noView _ | exact m_backFromNumber _ | exact m_behindNumber _ | exact m_asNumber _ _ | exact m_cellsIn _ | exact m_numberAt _ | exact m_viewAt _ | exact m_goPanic _ | exact m_unsupported _ | exact m_stuck _ | exact m_program | exact m_choose _ | exact m_setObj _ _ | exact m_getObj _ | exact m_frozen _ | exact m_freeze _ _ | exact m_shape _ | exact m_newObj _ | exact m_store _ _ _ | exact m_load _ _ | exact m_halt _ | exact m_pure _)
    | with_reducible refine m_map ?_
    | with_reducible refine m_bind ?_ (fun _ => ?_)
    | with_reducible refine m_ite ?_ ?_
    | refine m_forA (fun _ _ => ?_) _ _
    | refine m_forL (fun _ _ => ?_) _ _
    | refine m_forR (fun _ _ => ?_) _ _
    | refine m_mapA (fun _ => ?_) _
    | refine m_foldL (fun _ _ => ?_) _ _
    | split
    | dsimp only)

theorem m_floatCmp (o : BinOp) (k : FloatKind) (x y : Nat) : M P ok (Op.floatCmp o k x y) := by
  unfold Op.floatCmp
  repeat' (first
    | with_reducible (first | assumption | exact m_floatArith _ _ _ _ | exact m_intCmp _ _ _ | exact m_shift _ _ _ _ _ | exact m_intBits _ _ _ _ | exact m_intDiv _ _ _ _ | exact m_intArith _ _ _ _ | exact m_typeAssert _ _ _ _ | exact m_makeFunc _ _ _ | exact m_makeInterface _ _ | exact m_field _ _ _ | exact m_index _ _ _ | exact m_extract _ _ | exact m_makeSlice hR _ _ _ | exact m_buildSlice _ _ | exact m_build _ | exact m_box _ _ | exact m_sliceAt _ _ _ _ _ | exact m_slice _ _ _ _ _ | exact m_sliceBounds _ _ _ _ _ _ | exact m_sliceBound _ _ _ | exact m_indexAt _ _ _ | exact m_fieldAt _ _ _ | exact m_storeAt _ _ _ | exact m_loadAt _ _ | exact m_sureAddr _ | exact m_alloc _ _ _ | exact m_loadBytes _ _ _ | exact m_variablesAt _ _ _ | exact m_fieldPlace _ _ | exact m_partAt _ _ _ | exact m_byteOf _ | exact m_results _ _ | exact m_asAddr _ | exact m_asAgg _ | exact m_asString _ | exact m_asBool _ | exact m_asInt _ | exact m_asIntOf _ | exact m_boundsPanic _ _ _ _ | exact m_runtimePanic _ | exact m_part _ _ _ | exact m_elemOf _ | exact m_newVar _ _ | exact m_newRow _ _ | exact m_storeVar _ _ _ | exact m_loadVar _ _ | exact m_storeCells _ _ _ | exact m_loadCells _ _ | exact m_isAgg _ | exact m_sizeOf _ | exact m_zeroValue _ | exact m_typeStr _ | exact m_globalAddr _ | exact m_cutType _ | exact m_underlying _ | exact m_typeInfo _ | exact m_samePointer _ _ | exact m_sameAddr _ _ | exact m_mayBeOne _ _ | exact m_stringish _ | exact m_markStringish _ | exact m_noView _ | exact m_backFromNumber _ | exact m_behindNumber _ | exact m_asNumber _ _ | exact m_cellsIn _ | exact m_numberAt _ | exact m_viewAt _ | exact m_goPanic _ | exact m_unsupported _ | exact m_stuck _ | exact m_program | exact m_choose _ | exact m_setObj _ _ | exact m_getObj _ | exact m_frozen _ | exact m_freeze _ _ | exact m_shape _ | exact m_newObj _ | exact m_store _ _ _ | exact m_load _ _ | exact m_halt _ | exact m_pure _)
    | with_reducible refine m_map ?_
    | with_reducible refine m_bind ?_ (fun _ => ?_)
    | with_reducible refine m_ite ?_ ?_
    | refine m_forA (fun _ _ => ?_) _ _
    | refine m_forL (fun _ _ => ?_) _ _
    | refine m_forR (fun _ _ => ?_) _ _
    | refine m_mapA (fun _ => ?_) _
    | refine m_foldL (fun _ _ => ?_) _ _
    | split
    | dsimp only)

theorem m_stringOp (o : BinOp) (x y : ByteArray) : M P ok (Op.stringOp o x y) := by
  unfold Op.stringOp
  repeat' (first
    | with_reducible (first | assumption | exact m_floatCmp _ _ _ _ | exact m_floatArith _ _ _ _ | exact m_intCmp _ _ _ | exact m_shift _ _ _ _ _ | exact m_intBits _ _ _ _ | exact m_intDiv _ _ _ _ | exact m_intArith _ _ _ _ | exact m_typeAssert _ _ _ _ | exact m_makeFunc _ _ _ | exact m_makeInterface _ _ | exact m_field _ _ _ | exact m_index _ _ _ | exact m_extract _ _ | exact m_makeSlice hR _ _ _ | exact m_buildSlice _ _ | exact m_build _ | exact m_box _ _ | exact m_sliceAt _ _ _ _ _ | exact m_slice _ _ _ _ _ | exact m_sliceBounds _ _ _ _ _ _ | exact m_sliceBound _ _ _ | exact m_indexAt _ _ _ | exact m_fieldAt _ _ _ | exact m_storeAt _ _ _ | exact m_loadAt _ _ | exact m_sureAddr _ | exact m_alloc _ _ _ | exact m_loadBytes _ _ _ | exact m_variablesAt _ _ _ | exact m_fieldPlace _ _ | exact m_partAt _ _ _ | exact m_byteOf _ | exact m_results _ _ | exact m_asAddr _ | exact m_asAgg _ | exact m_asString _ | exact m_asBool _ | exact m_asInt _ | exact m_asIntOf _ | exact m_boundsPanic _ _ _ _ | exact m_runtimePanic _ | exact m_part _ _ _ | exact m_elemOf _ | exact m_newVar _ _ | exact m_newRow _ _ | exact m_storeVar _ _ _ | exact m_loadVar _ _ | exact m_storeCells _ _ _ | exact m_loadCells _ _ | exact m_isAgg _ | exact m_sizeOf _ | exact m_zeroValue _ | exact m_typeStr _ | exact m_globalAddr _ | exact m_cutType _ | exact m_underlying _ | exact m_typeInfo _ | exact m_samePointer _ _ | exact m_sameAddr _ _ | exact m_mayBeOne _ _ | exact m_stringish _ | exact m_markStringish _ | exact m_noView _ | exact m_backFromNumber _ | exact m_behindNumber _ | exact m_asNumber _ _ | exact m_cellsIn _ | exact m_numberAt _ | exact m_viewAt _ | exact m_goPanic _ | exact m_unsupported _ | exact m_stuck _ | exact m_program | exact m_choose _ | exact m_setObj _ _ | exact m_getObj _ | exact m_frozen _ | exact m_freeze _ _ | exact m_shape _ | exact m_newObj _ | exact m_store _ _ _ | exact m_load _ _ | exact m_halt _ | exact m_pure _)
    | with_reducible refine m_map ?_
    | with_reducible refine m_bind ?_ (fun _ => ?_)
    | with_reducible refine m_ite ?_ ?_
    | refine m_forA (fun _ _ => ?_) _ _
    | refine m_forL (fun _ _ => ?_) _ _
    | refine m_forR (fun _ _ => ?_) _ _
    | refine m_mapA (fun _ => ?_) _
    | refine m_foldL (fun _ _ => ?_) _ _
    | split
    | dsimp only)

theorem m_unary (o : UnOp) (v : Value) : M P ok (Op.unary o v) := by
  unfold Op.unary
  repeat' (first
    | with_reducible (first | assumption | exact m_stringOp _ _ _ | exact m_floatCmp _ _ _ _ | exact m_floatArith _ _ _ _ | exact m_intCmp _ _ _ | exact m_shift _ _ _ _ _ | exact m_intBits _ _ _ _ | exact m_intDiv _ _ _ _ | exact m_intArith _ _ _ _ | exact m_typeAssert _ _ _ _ | exact m_makeFunc _ _ _ | exact m_makeInterface _ _ | exact m_field _ _ _ | exact m_index _ _ _ | exact m_extract _ _ | exact m_makeSlice hR _ _ _ | exact m_buildSlice _ _ | exact m_build _ | exact m_box _ _ | exact m_sliceAt _ _ _ _ _ | exact m_slice _ _ _ _ _ | exact m_sliceBounds _ _ _ _ _ _ | exact m_sliceBound _ _ _ | exact m_indexAt _ _ _ | exact m_fieldAt _ _ _ | exact m_storeAt _ _ _ | exact m_loadAt _ _ | exact m_sureAddr _ | exact m_alloc _ _ _ | exact m_loadBytes _ _ _ | exact m_variablesAt _ _ _ | exact m_fieldPlace _ _ | exact m_partAt _ _ _ | exact m_byteOf _ | exact m_results _ _ | exact m_asAddr _ | exact m_asAgg _ | exact m_asString _ | exact m_asBool _ | exact m_asInt _ | exact m_asIntOf _ | exact m_boundsPanic _ _ _ _ | exact m_runtimePanic _ | exact m_part _ _ _ | exact m_elemOf _ | exact m_newVar _ _ | exact m_newRow _ _ | exact m_storeVar _ _ _ | exact m_loadVar _ _ | exact m_storeCells _ _ _ | exact m_loadCells _ _ | exact m_isAgg _ | exact m_sizeOf _ | exact m_zeroValue _ | exact m_typeStr _ | exact m_globalAddr _ | exact m_cutType _ | exact m_underlying _ | exact m_typeInfo _ | exact m_samePointer _ _ | exact m_sameAddr _ _ | exact m_mayBeOne _ _ | exact m_stringish _ | exact m_markStringish _ | exact m_noView _ | exact m_backFromNumber _ | exact m_behindNumber _ | exact m_asNumber _ _ | exact m_cellsIn _ | exact m_numberAt _ | exact m_viewAt _ | exact m_goPanic _ | exact m_unsupported _ | exact m_stuck _ | exact m_program | exact m_choose _ | exact m_setObj _ _ | exact m_getObj _ | exact m_frozen _ | exact m_freeze _ _ | exact m_shape _ | exact m_newObj _ | exact m_store _ _ _ | exact m_load _ _ | exact m_halt _ | exact m_pure _)
    | with_reducible refine m_map ?_
    | with_reducible refine m_bind ?_ (fun _ => ?_)
    | with_reducible refine m_ite ?_ ?_
    | refine m_forA (fun _ _ => ?_) _ _
    | refine m_forL (fun _ _ => ?_) _ _
    | refine m_forR (fun _ _ => ?_) _ _
    | refine m_mapA (fun _ => ?_) _
    | refine m_foldL (fun _ _ => ?_) _ _
    | split
    | dsimp only)

theorem m_floatToFloat (s : FloatKind) (b : Nat) (d : FloatKind) : M P ok (Conv.floatToFloat s b d) := by
  unfold Conv.floatToFloat
  repeat' (first
    | with_reducible (first | assumption | exact m_unary _ _ | exact m_stringOp _ _ _ | exact m_floatCmp _ _ _ _ | exact m_floatArith _ _ _ _ | exact m_intCmp _ _ _ | exact m_shift _ _ _ _ _ | exact m_intBits _ _ _ _ | exact m_intDiv _ _ _ _ | exact m_intArith _ _ _ _ | exact m_typeAssert _ _ _ _ | exact m_makeFunc _ _ _ | exact m_makeInterface _ _ | exact m_field _ _ _ | exact m_index _ _ _ | exact m_extract _ _ | exact m_makeSlice hR _ _ _ | exact m_buildSlice _ _ | exact m_build _ | exact m_box _ _ | exact m_sliceAt _ _ _ _ _ | exact m_slice _ _ _ _ _ | exact m_sliceBounds _ _ _ _ _ _ | exact m_sliceBound _ _ _ | exact m_indexAt _ _ _ | exact m_fieldAt _ _ _ | exact m_storeAt _ _ _ | exact m_loadAt _ _ | exact m_sureAddr _ | exact m_alloc _ _ _ | exact m_loadBytes _ _ _ | exact m_variablesAt _ _ _ | exact m_fieldPlace _ _ | exact m_partAt _ _ _ | exact m_byteOf _ | exact m_results _ _ | exact m_asAddr _ | exact m_asAgg _ | exact m_asString _ | exact m_asBool _ | exact m_asInt _ | exact m_asIntOf _ | exact m_boundsPanic _ _ _ _ | exact m_runtimePanic _ | exact m_part _ _ _ | exact m_elemOf _ | exact m_newVar _ _ | exact m_newRow _ _ | exact m_storeVar _ _ _ | exact m_loadVar _ _ | exact m_storeCells _ _ _ | exact m_loadCells _ _ | exact m_isAgg _ | exact m_sizeOf _ | exact m_zeroValue _ | exact m_typeStr _ | exact m_globalAddr _ | exact m_cutType _ | exact m_underlying _ | exact m_typeInfo _ | exact m_samePointer _ _ | exact m_sameAddr _ _ | exact m_mayBeOne _ _ | exact m_stringish _ | exact m_markStringish _ | exact m_noView _ | exact m_backFromNumber _ | exact m_behindNumber _ | exact m_asNumber _ _ | exact m_cellsIn _ | exact m_numberAt _ | exact m_viewAt _ | exact m_goPanic _ | exact m_unsupported _ | exact m_stuck _ | exact m_program | exact m_choose _ | exact m_setObj _ _ | exact m_getObj _ | exact m_frozen _ | exact m_freeze _ _ | exact m_shape _ | exact m_newObj _ | exact m_store _ _ _ | exact m_load _ _ | exact m_halt _ | exact m_pure _)
    | with_reducible refine m_map ?_
    | with_reducible refine m_bind ?_ (fun _ => ?_)
    | with_reducible refine m_ite ?_ ?_
    | refine m_forA (fun _ _ => ?_) _ _
    | refine m_forL (fun _ _ => ?_) _ _
    | refine m_forR (fun _ _ => ?_) _ _
    | refine m_mapA (fun _ => ?_) _
    | refine m_foldL (fun _ _ => ?_) _ _
    | split
    | dsimp only)

theorem m_floatToInt (s : FloatKind) (b : Nat) (d : IntKind) : M P ok (Conv.floatToInt s b d) := by
  unfold Conv.floatToInt
  repeat' (first
    | with_reducible (first | assumption | exact m_floatToFloat _ _ _ | exact m_unary _ _ | exact m_stringOp _ _ _ | exact m_floatCmp _ _ _ _ | exact m_floatArith _ _ _ _ | exact m_intCmp _ _ _ | exact m_shift _ _ _ _ _ | exact m_intBits _ _ _ _ | exact m_intDiv _ _ _ _ | exact m_intArith _ _ _ _ | exact m_typeAssert _ _ _ _ | exact m_makeFunc _ _ _ | exact m_makeInterface _ _ | exact m_field _ _ _ | exact m_index _ _ _ | exact m_extract _ _ | exact m_makeSlice hR _ _ _ | exact m_buildSlice _ _ | exact m_build _ | exact m_box _ _ | exact m_sliceAt _ _ _ _ _ | exact m_slice _ _ _ _ _ | exact m_sliceBounds _ _ _ _ _ _ | exact m_sliceBound _ _ _ | exact m_indexAt _ _ _ | exact m_fieldAt _ _ _ | exact m_storeAt _ _ _ | exact m_loadAt _ _ | exact m_sureAddr _ | exact m_alloc _ _ _ | exact m_loadBytes _ _ _ | exact m_variablesAt _ _ _ | exact m_fieldPlace _ _ | exact m_partAt _ _ _ | exact m_byteOf _ | exact m_results _ _ | exact m_asAddr _ | exact m_asAgg _ | exact m_asString _ | exact m_asBool _ | exact m_asInt _ | exact m_asIntOf _ | exact m_boundsPanic _ _ _ _ | exact m_runtimePanic _ | exact m_part _ _ _ | exact m_elemOf _ | exact m_newVar _ _ | exact m_newRow _ _ | exact m_storeVar _ _ _ | exact m_loadVar _ _ | exact m_storeCells _ _ _ | exact m_loadCells _ _ | exact m_isAgg _ | exact m_sizeOf _ | exact m_zeroValue _ | exact m_typeStr _ | exact m_globalAddr _ | exact m_cutType _ | exact m_underlying _ | exact m_typeInfo _ | exact m_samePointer _ _ | exact m_sameAddr _ _ | exact m_mayBeOne _ _ | exact m_stringish _ | exact m_markStringish _ | exact m_noView _ | exact m_backFromNumber _ | exact m_behindNumber _ | exact m_asNumber _ _ | exact m_cellsIn _ | exact m_numberAt _ | exact m_viewAt _ | exact m_goPanic _ | exact m_unsupported _ | exact m_stuck _ | exact m_program | exact m_choose _ | exact m_setObj _ _ | exact m_getObj _ | exact m_frozen _ | exact m_freeze _ _ | exact m_shape _ | exact m_newObj _ | exact m_store _ _ _ | exact m_load _ _ | exact m_halt _ | exact m_pure _)
    | with_reducible refine m_map ?_
    | with_reducible refine m_bind ?_ (fun _ => ?_)
    | with_reducible refine m_ite ?_ ?_
    | refine m_forA (fun _ _ => ?_) _ _
    | refine m_forL (fun _ _ => ?_) _ _
    | refine m_forR (fun _ _ => ?_) _ _
    | refine m_mapA (fun _ => ?_) _
    | refine m_foldL (fun _ _ => ?_) _ _
    | split
    | dsimp only)

theorem m_carith (o : BinOp) (k : FloatKind) (x y : Nat) : M P ok (Op.Complex.arith o k x y) := by
  unfold Op.Complex.arith
  repeat' (first
    | with_reducible (first | assumption | exact m_floatToInt _ _ _ | exact m_floatToFloat _ _ _ | exact m_unary _ _ | exact m_stringOp _ _ _ | exact m_floatCmp _ _ _ _ | exact m_floatArith _ _ _ _ | exact m_intCmp _ _ _ | exact m_shift _ _ _ _ _ | exact m_intBits _ _ _ _ | exact m_intDiv _ _ _ _ | exact m_intArith _ _ _ _ | exact m_typeAssert _ _ _ _ | exact m_makeFunc _ _ _ | exact m_makeInterface _ _ | exact m_field _ _ _ | exact m_index _ _ _ | exact m_extract _ _ | exact m_makeSlice hR _ _ _ | exact m_buildSlice _ _ | exact m_build _ | exact m_box _ _ | exact m_sliceAt _ _ _ _ _ | exact m_slice _ _ _ _ _ | exact m_sliceBounds _ _ _ _ _ _ | exact m_sliceBound _ _ _ | exact m_indexAt _ _ _ | exact m_fieldAt _ _ _ | exact m_storeAt _ _ _ | exact m_loadAt _ _ | exact m_sureAddr _ | exact m_alloc _ _ _ | exact m_loadBytes _ _ _ | exact m_variablesAt _ _ _ | exact m_fieldPlace _ _ | exact m_partAt _ _ _ | exact m_byteOf _ | exact m_results _ _ | exact m_asAddr _ | exact m_asAgg _ | exact m_asString _ | exact m_asBool _ | exact m_asInt _ | exact m_asIntOf _ | exact m_boundsPanic _ _ _ _ | exact m_runtimePanic _ | exact m_part _ _ _ | exact m_elemOf _ | exact m_newVar _ _ | exact m_newRow _ _ | exact m_storeVar _ _ _ | exact m_loadVar _ _ | exact m_storeCells _ _ _ | exact m_loadCells _ _ | exact m_isAgg _ | exact m_sizeOf _ | exact m_zeroValue _ | exact m_typeStr _ | exact m_globalAddr _ | exact m_cutType _ | exact m_underlying _ | exact m_typeInfo _ | exact m_samePointer _ _ | exact m_sameAddr _ _ | exact m_mayBeOne _ _ | exact m_stringish _ | exact m_markStringish _ | exact m_noView _ | exact m_backFromNumber _ | exact m_behindNumber _ | exact m_asNumber _ _ | exact m_cellsIn _ | exact m_numberAt _ | exact m_viewAt _ | exact m_goPanic _ | exact m_unsupported _ | exact m_stuck _ | exact m_program | exact m_choose _ | exact m_setObj _ _ | exact m_getObj _ | exact m_frozen _ | exact m_freeze _ _ | exact m_shape _ | exact m_newObj _ | exact m_store _ _ _ | exact m_load _ _ | exact m_halt _ | exact m_pure _)
    | with_reducible refine m_map ?_
    | with_reducible refine m_bind ?_ (fun _ => ?_)
    | with_reducible refine m_ite ?_ ?_
    | refine m_forA (fun _ _ => ?_) _ _
    | refine m_forL (fun _ _ => ?_) _ _
    | refine m_forR (fun _ _ => ?_) _ _
    | refine m_mapA (fun _ => ?_) _
    | refine m_foldL (fun _ _ => ?_) _ _
    | split
    | dsimp only)

theorem m_ccmp (o : BinOp) (k : FloatKind) (x y : Nat) : M P ok (Op.Complex.cmp o k x y) := by
  unfold Op.Complex.cmp
  repeat' (first
    | with_reducible (first | assumption | exact m_carith _ _ _ _ | exact m_floatToInt _ _ _ | exact m_floatToFloat _ _ _ | exact m_unary _ _ | exact m_stringOp _ _ _ | exact m_floatCmp _ _ _ _ | exact m_floatArith _ _ _ _ | exact m_intCmp _ _ _ | exact m_shift _ _ _ _ _ | exact m_intBits _ _ _ _ | exact m_intDiv _ _ _ _ | exact m_intArith _ _ _ _ | exact m_typeAssert _ _ _ _ | exact m_makeFunc _ _ _ | exact m_makeInterface _ _ | exact m_field _ _ _ | exact m_index _ _ _ | exact m_extract _ _ | exact m_makeSlice hR _ _ _ | exact m_buildSlice _ _ | exact m_build _ | exact m_box _ _ | exact m_sliceAt _ _ _ _ _ | exact m_slice _ _ _ _ _ | exact m_sliceBounds _ _ _ _ _ _ | exact m_sliceBound _ _ _ | exact m_indexAt _ _ _ | exact m_fieldAt _ _ _ | exact m_storeAt _ _ _ | exact m_loadAt _ _ | exact m_sureAddr _ | exact m_alloc _ _ _ | exact m_loadBytes _ _ _ | exact m_variablesAt _ _ _ | exact m_fieldPlace _ _ | exact m_partAt _ _ _ | exact m_byteOf _ | exact m_results _ _ | exact m_asAddr _ | exact m_asAgg _ | exact m_asString _ | exact m_asBool _ | exact m_asInt _ | exact m_asIntOf _ | exact m_boundsPanic _ _ _ _ | exact m_runtimePanic _ | exact m_part _ _ _ | exact m_elemOf _ | exact m_newVar _ _ | exact m_newRow _ _ | exact m_storeVar _ _ _ | exact m_loadVar _ _ | exact m_storeCells _ _ _ | exact m_loadCells _ _ | exact m_isAgg _ | exact m_sizeOf _ | exact m_zeroValue _ | exact m_typeStr _ | exact m_globalAddr _ | exact m_cutType _ | exact m_underlying _ | exact m_typeInfo _ | exact m_samePointer _ _ | exact m_sameAddr _ _ | exact m_mayBeOne _ _ | exact m_stringish _ | exact m_markStringish _ | exact m_noView _ | exact m_backFromNumber _ | exact m_behindNumber _ | exact m_asNumber _ _ | exact m_cellsIn _ | exact m_numberAt _ | exact m_viewAt _ | exact m_goPanic _ | exact m_unsupported _ | exact m_stuck _ | exact m_program | exact m_choose _ | exact m_setObj _ _ | exact m_getObj _ | exact m_frozen _ | exact m_freeze _ _ | exact m_shape _ | exact m_newObj _ | exact m_store _ _ _ | exact m_load _ _ | exact m_halt _ | exact m_pure _)
    | with_reducible refine m_map ?_
    | with_reducible refine m_bind ?_ (fun _ => ?_)
    | with_reducible refine m_ite ?_ ?_
    | refine m_forA (fun _ _ => ?_) _ _
    | refine m_forL (fun _ _ => ?_) _ _
    | refine m_forR (fun _ _ => ?_) _ _
    | refine m_mapA (fun _ => ?_) _
    | refine m_foldL (fun _ _ => ?_) _ _
    | split
    | dsimp only)

theorem m_cconv (s : FloatKind) (x : Nat) (d : FloatKind) : M P ok (Op.Complex.conv s x d) := by
  unfold Op.Complex.conv
  repeat' (first
    | with_reducible (first | assumption | exact m_ccmp _ _ _ _ | exact m_carith _ _ _ _ | exact m_floatToInt _ _ _ | exact m_floatToFloat _ _ _ | exact m_unary _ _ | exact m_stringOp _ _ _ | exact m_floatCmp _ _ _ _ | exact m_floatArith _ _ _ _ | exact m_intCmp _ _ _ | exact m_shift _ _ _ _ _ | exact m_intBits _ _ _ _ | exact m_intDiv _ _ _ _ | exact m_intArith _ _ _ _ | exact m_typeAssert _ _ _ _ | exact m_makeFunc _ _ _ | exact m_makeInterface _ _ | exact m_field _ _ _ | exact m_index _ _ _ | exact m_extract _ _ | exact m_makeSlice hR _ _ _ | exact m_buildSlice _ _ | exact m_build _ | exact m_box _ _ | exact m_sliceAt _ _ _ _ _ | exact m_slice _ _ _ _ _ | exact m_sliceBounds _ _ _ _ _ _ | exact m_sliceBound _ _ _ | exact m_indexAt _ _ _ | exact m_fieldAt _ _ _ | exact m_storeAt _ _ _ | exact m_loadAt _ _ | exact m_sureAddr _ | exact m_alloc _ _ _ | exact m_loadBytes _ _ _ | exact m_variablesAt _ _ _ | exact m_fieldPlace _ _ | exact m_partAt _ _ _ | exact m_byteOf _ | exact m_results _ _ | exact m_asAddr _ | exact m_asAgg _ | exact m_asString _ | exact m_asBool _ | exact m_asInt _ | exact m_asIntOf _ | exact m_boundsPanic _ _ _ _ | exact m_runtimePanic _ | exact m_part _ _ _ | exact m_elemOf _ | exact m_newVar _ _ | exact m_newRow _ _ | exact m_storeVar _ _ _ | exact m_loadVar _ _ | exact m_storeCells _ _ _ | exact m_loadCells _ _ | exact m_isAgg _ | exact m_sizeOf _ | exact m_zeroValue _ | exact m_typeStr _ | exact m_globalAddr _ | exact m_cutType _ | exact m_underlying _ | exact m_typeInfo _ | exact m_samePointer _ _ | exact m_sameAddr _ _ | exact m_mayBeOne _ _ | exact m_stringish _ | exact m_markStringish _ | exact m_noView _ | exact m_backFromNumber _ | exact m_behindNumber _ | exact m_asNumber _ _ | exact m_cellsIn _ | exact m_numberAt _ | exact m_viewAt _ | exact m_goPanic _ | exact m_unsupported _ | exact m_stuck _ | exact m_program | exact m_choose _ | exact m_setObj _ _ | exact m_getObj _ | exact m_frozen _ | exact m_freeze _ _ | exact m_shape _ | exact m_newObj _ | exact m_store _ _ _ | exact m_load _ _ | exact m_halt _ | exact m_pure _)
    | with_reducible refine m_map ?_
    | with_reducible refine m_bind ?_ (fun _ => ?_)
    | with_reducible refine m_ite ?_ ?_
    | refine m_forA (fun _ _ => ?_) _ _
    | refine m_forL (fun _ _ => ?_) _ _
    | refine m_forR (fun _ _ => ?_) _ _
    | refine m_mapA (fun _ => ?_) _
    | refine m_foldL (fun _ _ => ?_) _ _
    | split
    | dsimp only)

theorem m_cadd (x y : Nat) : M P ok (Op.Complex.add x y) := by
  unfold Op.Complex.add
  repeat' (first
    | with_reducible (first | assumption | exact m_cconv _ _ _ | exact m_ccmp _ _ _ _ | exact m_carith _ _ _ _ | exact m_floatToInt _ _ _ | exact m_floatToFloat _ _ _ | exact m_unary _ _ | exact m_stringOp _ _ _ | exact m_floatCmp _ _ _ _ | exact m_floatArith _ _ _ _ | exact m_intCmp _ _ _ | exact m_shift _ _ _ _ _ | exact m_intBits _ _ _ _ | exact m_intDiv _ _ _ _ | exact m_intArith _ _ _ _ | exact m_typeAssert _ _ _ _ | exact m_makeFunc _ _ _ | exact m_makeInterface _ _ | exact m_field _ _ _ | exact m_index _ _ _ | exact m_extract _ _ | exact m_makeSlice hR _ _ _ | exact m_buildSlice _ _ | exact m_build _ | exact m_box _ _ | exact m_sliceAt _ _ _ _ _ | exact m_slice _ _ _ _ _ | exact m_sliceBounds _ _ _ _ _ _ | exact m_sliceBound _ _ _ | exact m_indexAt _ _ _ | exact m_fieldAt _ _ _ | exact m_storeAt _ _ _ | exact m_loadAt _ _ | exact m_sureAddr _ | exact m_alloc _ _ _ | exact m_loadBytes _ _ _ | exact m_variablesAt _ _ _ | exact m_fieldPlace _ _ | exact m_partAt _ _ _ | exact m_byteOf _ | exact m_results _ _ | exact m_asAddr _ | exact m_asAgg _ | exact m_asString _ | exact m_asBool _ | exact m_asInt _ | exact m_asIntOf _ | exact m_boundsPanic _ _ _ _ | exact m_runtimePanic _ | exact m_part _ _ _ | exact m_elemOf _ | exact m_newVar _ _ | exact m_newRow _ _ | exact m_storeVar _ _ _ | exact m_loadVar _ _ | exact m_storeCells _ _ _ | exact m_loadCells _ _ | exact m_isAgg _ | exact m_sizeOf _ | exact m_zeroValue _ | exact m_typeStr _ | exact m_globalAddr _ | exact m_cutType _ | exact m_underlying _ | exact m_typeInfo _ | exact m_samePointer _ _ | exact m_sameAddr _ _ | exact m_mayBeOne _ _ | exact m_stringish _ | exact m_markStringish _ | exact m_noView _ | exact m_backFromNumber _ | exact m_behindNumber _ | exact m_asNumber _ _ | exact m_cellsIn _ | exact m_numberAt _ | exact m_viewAt _ | exact m_goPanic _ | exact m_unsupported _ | exact m_stuck _ | exact m_program | exact m_choose _ | exact m_setObj _ _ | exact m_getObj _ | exact m_frozen _ | exact m_freeze _ _ | exact m_shape _ | exact m_newObj _ | exact m_store _ _ _ | exact m_load _ _ | exact m_halt _ | exact m_pure _)
    | with_reducible refine m_map ?_
    | with_reducible refine m_bind ?_ (fun _ => ?_)
    | with_reducible refine m_ite ?_ ?_
    | refine m_forA (fun _ _ => ?_) _ _
    | refine m_forL (fun _ _ => ?_) _ _
    | refine m_forR (fun _ _ => ?_) _ _
    | refine m_mapA (fun _ => ?_) _
    | refine m_foldL (fun _ _ => ?_) _ _
    | split
    | dsimp only)

theorem m_csub (x y : Nat) : M P ok (Op.Complex.sub x y) := by
  unfold Op.Complex.sub
  repeat' (first
    | with_reducible (first | assumption | exact m_cadd _ _ | exact m_cconv _ _ _ | exact m_ccmp _ _ _ _ | exact m_carith _ _ _ _ | exact m_floatToInt _ _ _ | exact m_floatToFloat _ _ _ | exact m_unary _ _ | exact m_stringOp _ _ _ | exact m_floatCmp _ _ _ _ | exact m_floatArith _ _ _ _ | exact m_intCmp _ _ _ | exact m_shift _ _ _ _ _ | exact m_intBits _ _ _ _ | exact m_intDiv _ _ _ _ | exact m_intArith _ _ _ _ | exact m_typeAssert _ _ _ _ | exact m_makeFunc _ _ _ | exact m_makeInterface _ _ | exact m_field _ _ _ | exact m_index _ _ _ | exact m_extract _ _ | exact m_makeSlice hR _ _ _ | exact m_buildSlice _ _ | exact m_build _ | exact m_box _ _ | exact m_sliceAt _ _ _ _ _ | exact m_slice _ _ _ _ _ | exact m_sliceBounds _ _ _ _ _ _ | exact m_sliceBound _ _ _ | exact m_indexAt _ _ _ | exact m_fieldAt _ _ _ | exact m_storeAt _ _ _ | exact m_loadAt _ _ | exact m_sureAddr _ | exact m_alloc _ _ _ | exact m_loadBytes _ _ _ | exact m_variablesAt _ _ _ | exact m_fieldPlace _ _ | exact m_partAt _ _ _ | exact m_byteOf _ | exact m_results _ _ | exact m_asAddr _ | exact m_asAgg _ | exact m_asString _ | exact m_asBool _ | exact m_asInt _ | exact m_asIntOf _ | exact m_boundsPanic _ _ _ _ | exact m_runtimePanic _ | exact m_part _ _ _ | exact m_elemOf _ | exact m_newVar _ _ | exact m_newRow _ _ | exact m_storeVar _ _ _ | exact m_loadVar _ _ | exact m_storeCells _ _ _ | exact m_loadCells _ _ | exact m_isAgg _ | exact m_sizeOf _ | exact m_zeroValue _ | exact m_typeStr _ | exact m_globalAddr _ | exact m_cutType _ | exact m_underlying _ | exact m_typeInfo _ | exact m_samePointer _ _ | exact m_sameAddr _ _ | exact m_mayBeOne _ _ | exact m_stringish _ | exact m_markStringish _ | exact m_noView _ | exact m_backFromNumber _ | exact m_behindNumber _ | exact m_asNumber _ _ | exact m_cellsIn _ | exact m_numberAt _ | exact m_viewAt _ | exact m_goPanic _ | exact m_unsupported _ | exact m_stuck _ | exact m_program | exact m_choose _ | exact m_setObj _ _ | exact m_getObj _ | exact m_frozen _ | exact m_freeze _ _ | exact m_shape _ | exact m_newObj _ | exact m_store _ _ _ | exact m_load _ _ | exact m_halt _ | exact m_pure _)
    | with_reducible refine m_map ?_
    | with_reducible refine m_bind ?_ (fun _ => ?_)
    | with_reducible refine m_ite ?_ ?_
    | refine m_forA (fun _ _ => ?_) _ _
    | refine m_forL (fun _ _ => ?_) _ _
    | refine m_forR (fun _ _ => ?_) _ _
    | refine m_mapA (fun _ => ?_) _
    | refine m_foldL (fun _ _ => ?_) _ _
    | split
    | dsimp only)

theorem m_cmul (x y : Nat) : M P ok (Op.Complex.mul x y) := by
  unfold Op.Complex.mul
  repeat' (first
    | with_reducible (first | assumption | exact m_csub _ _ | exact m_cadd _ _ | exact m_cconv _ _ _ | exact m_ccmp _ _ _ _ | exact m_carith _ _ _ _ | exact m_floatToInt _ _ _ | exact m_floatToFloat _ _ _ | exact m_unary _ _ | exact m_stringOp _ _ _ | exact m_floatCmp _ _ _ _ | exact m_floatArith _ _ _ _ | exact m_intCmp _ _ _ | exact m_shift _ _ _ _ _ | exact m_intBits _ _ _ _ | exact m_intDiv _ _ _ _ | exact m_intArith _ _ _ _ | exact m_typeAssert _ _ _ _ | exact m_makeFunc _ _ _ | exact m_makeInterface _ _ | exact m_field _ _ _ | exact m_index _ _ _ | exact m_extract _ _ | exact m_makeSlice hR _ _ _ | exact m_buildSlice _ _ | exact m_build _ | exact m_box _ _ | exact m_sliceAt _ _ _ _ _ | exact m_slice _ _ _ _ _ | exact m_sliceBounds _ _ _ _ _ _ | exact m_sliceBound _ _ _ | exact m_indexAt _ _ _ | exact m_fieldAt _ _ _ | exact m_storeAt _ _ _ | exact m_loadAt _ _ | exact m_sureAddr _ | exact m_alloc _ _ _ | exact m_loadBytes _ _ _ | exact m_variablesAt _ _ _ | exact m_fieldPlace _ _ | exact m_partAt _ _ _ | exact m_byteOf _ | exact m_results _ _ | exact m_asAddr _ | exact m_asAgg _ | exact m_asString _ | exact m_asBool _ | exact m_asInt _ | exact m_asIntOf _ | exact m_boundsPanic _ _ _ _ | exact m_runtimePanic _ | exact m_part _ _ _ | exact m_elemOf _ | exact m_newVar _ _ | exact m_newRow _ _ | exact m_storeVar _ _ _ | exact m_loadVar _ _ | exact m_storeCells _ _ _ | exact m_loadCells _ _ | exact m_isAgg _ | exact m_sizeOf _ | exact m_zeroValue _ | exact m_typeStr _ | exact m_globalAddr _ | exact m_cutType _ | exact m_underlying _ | exact m_typeInfo _ | exact m_samePointer _ _ | exact m_sameAddr _ _ | exact m_mayBeOne _ _ | exact m_stringish _ | exact m_markStringish _ | exact m_noView _ | exact m_backFromNumber _ | exact m_behindNumber _ | exact m_asNumber _ _ | exact m_cellsIn _ | exact m_numberAt _ | exact m_viewAt _ | exact m_goPanic _ | exact m_unsupported _ | exact m_stuck _ | exact m_program | exact m_choose _ | exact m_setObj _ _ | exact m_getObj _ | exact m_frozen _ | exact m_freeze _ _ | exact m_shape _ | exact m_newObj _ | exact m_store _ _ _ | exact m_load _ _ | exact m_halt _ | exact m_pure _)
    | with_reducible refine m_map ?_
    | with_reducible refine m_bind ?_ (fun _ => ?_)
    | with_reducible refine m_ite ?_ ?_
    | refine m_forA (fun _ _ => ?_) _ _
    | refine m_forL (fun _ _ => ?_) _ _
    | refine m_forR (fun _ _ => ?_) _ _
    | refine m_mapA (fun _ => ?_) _
    | refine m_foldL (fun _ _ => ?_) _ _
    | split
    | dsimp only)

theorem m_cquo (x y : Nat) : M P ok (Op.Complex.quo x y) := by
  unfold Op.Complex.quo
  repeat' (first
    | with_reducible (first | assumption | exact m_cmul _ _ | exact m_csub _ _ | exact m_cadd _ _ | exact m_cconv _ _ _ | exact m_ccmp _ _ _ _ | exact m_carith _ _ _ _ | exact m_floatToInt _ _ _ | exact m_floatToFloat _ _ _ | exact m_unary _ _ | exact m_stringOp _ _ _ | exact m_floatCmp _ _ _ _ | exact m_floatArith _ _ _ _ | exact m_intCmp _ _ _ | exact m_shift _ _ _ _ _ | exact m_intBits _ _ _ _ | exact m_intDiv _ _ _ _ | exact m_intArith _ _ _ _ | exact m_typeAssert _ _ _ _ | exact m_makeFunc _ _ _ | exact m_makeInterface _ _ | exact m_field _ _ _ | exact m_index _ _ _ | exact m_extract _ _ | exact m_makeSlice hR _ _ _ | exact m_buildSlice _ _ | exact m_build _ | exact m_box _ _ | exact m_sliceAt _ _ _ _ _ | exact m_slice _ _ _ _ _ | exact m_sliceBounds _ _ _ _ _ _ | exact m_sliceBound _ _ _ | exact m_indexAt _ _ _ | exact m_fieldAt _ _ _ | exact m_storeAt _ _ _ | exact m_loadAt _ _ | exact m_sureAddr _ | exact m_alloc _ _ _ | exact m_loadBytes _ _ _ | exact m_variablesAt _ _ _ | exact m_fieldPlace _ _ | exact m_partAt _ _ _ | exact m_byteOf _ | exact m_results _ _ | exact m_asAddr _ | exact m_asAgg _ | exact m_asString _ | exact m_asBool _ | exact m_asInt _ | exact m_asIntOf _ | exact m_boundsPanic _ _ _ _ | exact m_runtimePanic _ | exact m_part _ _ _ | exact m_elemOf _ | exact m_newVar _ _ | exact m_newRow _ _ | exact m_storeVar _ _ _ | exact m_loadVar _ _ | exact m_storeCells _ _ _ | exact m_loadCells _ _ | exact m_isAgg _ | exact m_sizeOf _ | exact m_zeroValue _ | exact m_typeStr _ | exact m_globalAddr _ | exact m_cutType _ | exact m_underlying _ | exact m_typeInfo _ | exact m_samePointer _ _ | exact m_sameAddr _ _ | exact m_mayBeOne _ _ | exact m_stringish _ | exact m_markStringish _ | exact m_noView _ | exact m_backFromNumber _ | exact m_behindNumber _ | exact m_asNumber _ _ | exact m_cellsIn _ | exact m_numberAt _ | exact m_viewAt _ | exact m_goPanic _ | exact m_unsupported _ | exact m_stuck _ | exact m_program | exact m_choose _ | exact m_setObj _ _ | exact m_getObj _ | exact m_frozen _ | exact m_freeze _ _ | exact m_shape _ | exact m_newObj _ | exact m_store _ _ _ | exact m_load _ _ | exact m_halt _ | exact m_pure _)
    | with_reducible refine m_map ?_
    | with_reducible refine m_bind ?_ (fun _ => ?_)
    | with_reducible refine m_ite ?_ ?_
    | refine m_forA (fun _ _ => ?_) _ _
    | refine m_forL (fun _ _ => ?_) _ _
    | refine m_forR (fun _ _ => ?_) _ _
    | refine m_mapA (fun _ => ?_) _
    | refine m_foldL (fun _ _ => ?_) _ _
    | split
    | dsimp only)

theorem m_cproduct (a b c d : Nat) : M P ok (Op.Complex.product a b c d) := by
  unfold Op.Complex.product
  repeat' (first
    | with_reducible (first | assumption | exact m_cquo _ _ | exact m_cmul _ _ | exact m_csub _ _ | exact m_cadd _ _ | exact m_cconv _ _ _ | exact m_ccmp _ _ _ _ | exact m_carith _ _ _ _ | exact m_floatToInt _ _ _ | exact m_floatToFloat _ _ _ | exact m_unary _ _ | exact m_stringOp _ _ _ | exact m_floatCmp _ _ _ _ | exact m_floatArith _ _ _ _ | exact m_intCmp _ _ _ | exact m_shift _ _ _ _ _ | exact m_intBits _ _ _ _ | exact m_intDiv _ _ _ _ | exact m_intArith _ _ _ _ | exact m_typeAssert _ _ _ _ | exact m_makeFunc _ _ _ | exact m_makeInterface _ _ | exact m_field _ _ _ | exact m_index _ _ _ | exact m_extract _ _ | exact m_makeSlice hR _ _ _ | exact m_buildSlice _ _ | exact m_build _ | exact m_box _ _ | exact m_sliceAt _ _ _ _ _ | exact m_slice _ _ _ _ _ | exact m_sliceBounds _ _ _ _ _ _ | exact m_sliceBound _ _ _ | exact m_indexAt _ _ _ | exact m_fieldAt _ _ _ | exact m_storeAt _ _ _ | exact m_loadAt _ _ | exact m_sureAddr _ | exact m_alloc _ _ _ | exact m_loadBytes _ _ _ | exact m_variablesAt _ _ _ | exact m_fieldPlace _ _ | exact m_partAt _ _ _ | exact m_byteOf _ | exact m_results _ _ | exact m_asAddr _ | exact m_asAgg _ | exact m_asString _ | exact m_asBool _ | exact m_asInt _ | exact m_asIntOf _ | exact m_boundsPanic _ _ _ _ | exact m_runtimePanic _ | exact m_part _ _ _ | exact m_elemOf _ | exact m_newVar _ _ | exact m_newRow _ _ | exact m_storeVar _ _ _ | exact m_loadVar _ _ | exact m_storeCells _ _ _ | exact m_loadCells _ _ | exact m_isAgg _ | exact m_sizeOf _ | exact m_zeroValue _ | exact m_typeStr _ | exact m_globalAddr _ | exact m_cutType _ | exact m_underlying _ | exact m_typeInfo _ | exact m_samePointer _ _ | exact m_sameAddr _ _ | exact m_mayBeOne _ _ | exact m_stringish _ | exact m_markStringish _ | exact m_noView _ | exact m_backFromNumber _ | exact m_behindNumber _ | exact m_asNumber _ _ | exact m_cellsIn _ | exact m_numberAt _ | exact m_viewAt _ | exact m_goPanic _ | exact m_unsupported _ | exact m_stuck _ | exact m_program | exact m_choose _ | exact m_setObj _ _ | exact m_getObj _ | exact m_frozen _ | exact m_freeze _ _ | exact m_shape _ | exact m_newObj _ | exact m_store _ _ _ | exact m_load _ _ | exact m_halt _ | exact m_pure _)
    | with_reducible refine m_map ?_
    | with_reducible refine m_bind ?_ (fun _ => ?_)
    | with_reducible refine m_ite ?_ ?_
    | refine m_forA (fun _ _ => ?_) _ _
    | refine m_forL (fun _ _ => ?_) _ _
    | refine m_forR (fun _ _ => ?_) _ _
    | refine m_mapA (fun _ => ?_) _
    | refine m_foldL (fun _ _ => ?_) _ _
    | split
    | dsimp only)

theorem m_ccorr (s a b c d : Nat) : M P ok (Op.Complex.corrected s a b c d) := by
  unfold Op.Complex.corrected
  repeat' (first
    | with_reducible (first | assumption | exact m_cproduct _ _ _ _ | exact m_cquo _ _ | exact m_cmul _ _ | exact m_csub _ _ | exact m_cadd _ _ | exact m_cconv _ _ _ | exact m_ccmp _ _ _ _ | exact m_carith _ _ _ _ | exact m_floatToInt _ _ _ | exact m_floatToFloat _ _ _ | exact m_unary _ _ | exact m_stringOp _ _ _ | exact m_floatCmp _ _ _ _ | exact m_floatArith _ _ _ _ | exact m_intCmp _ _ _ | exact m_shift _ _ _ _ _ | exact m_intBits _ _ _ _ | exact m_intDiv _ _ _ _ | exact m_intArith _ _ _ _ | exact m_typeAssert _ _ _ _ | exact m_makeFunc _ _ _ | exact m_makeInterface _ _ | exact m_field _ _ _ | exact m_index _ _ _ | exact m_extract _ _ | exact m_makeSlice hR _ _ _ | exact m_buildSlice _ _ | exact m_build _ | exact m_box _ _ | exact m_sliceAt _ _ _ _ _ | exact m_slice _ _ _ _ _ | exact m_sliceBounds _ _ _ _ _ _ | exact m_sliceBound _ _ _ | exact m_indexAt _ _ _ | exact m_fieldAt _ _ _ | exact m_storeAt _ _ _ | exact m_loadAt _ _ | exact m_sureAddr _ | exact m_alloc _ _ _ | exact m_loadBytes _ _ _ | exact m_variablesAt _ _ _ | exact m_fieldPlace _ _ | exact m_partAt _ _ _ | exact m_byteOf _ | exact m_results _ _ | exact m_asAddr _ | exact m_asAgg _ | exact m_asString _ | exact m_asBool _ | exact m_asInt _ | exact m_asIntOf _ | exact m_boundsPanic _ _ _ _ | exact m_runtimePanic _ | exact m_part _ _ _ | exact m_elemOf _ | exact m_newVar _ _ | exact m_newRow _ _ | exact m_storeVar _ _ _ | exact m_loadVar _ _ | exact m_storeCells _ _ _ | exact m_loadCells _ _ | exact m_isAgg _ | exact m_sizeOf _ | exact m_zeroValue _ | exact m_typeStr _ | exact m_globalAddr _ | exact m_cutType _ | exact m_underlying _ | exact m_typeInfo _ | exact m_samePointer _ _ | exact m_sameAddr _ _ | exact m_mayBeOne _ _ | exact m_stringish _ | exact m_markStringish _ | exact m_noView _ | exact m_backFromNumber _ | exact m_behindNumber _ | exact m_asNumber _ _ | exact m_cellsIn _ | exact m_numberAt _ | exact m_viewAt _ | exact m_goPanic _ | exact m_unsupported _ | exact m_stuck _ | exact m_program | exact m_choose _ | exact m_setObj _ _ | exact m_getObj _ | exact m_frozen _ | exact m_freeze _ _ | exact m_shape _ | exact m_newObj _ | exact m_store _ _ _ | exact m_load _ _ | exact m_halt _ | exact m_pure _)
    | with_reducible refine m_map ?_
    | with_reducible refine m_bind ?_ (fun _ => ?_)
    | with_reducible refine m_ite ?_ ?_
    | refine m_forA (fun _ _ => ?_) _ _
    | refine m_forL (fun _ _ => ?_) _ _
    | refine m_forR (fun _ _ => ?_) _ _
    | refine m_mapA (fun _ => ?_) _
    | refine m_foldL (fun _ _ => ?_) _ _
    | split
    | dsimp only)

theorem m_cquot (a b c d : Nat) : M P ok (Op.Complex.quotient a b c d) := by
  unfold Op.Complex.quotient
  repeat' (first
    | with_reducible (first | assumption | exact m_ccorr _ _ _ _ _ | exact m_cproduct _ _ _ _ | exact m_cquo _ _ | exact m_cmul _ _ | exact m_csub _ _ | exact m_cadd _ _ | exact m_cconv _ _ _ | exact m_ccmp _ _ _ _ | exact m_carith _ _ _ _ | exact m_floatToInt _ _ _ | exact m_floatToFloat _ _ _ | exact m_unary _ _ | exact m_stringOp _ _ _ | exact m_floatCmp _ _ _ _ | exact m_floatArith _ _ _ _ | exact m_intCmp _ _ _ | exact m_shift _ _ _ _ _ | exact m_intBits _ _ _ _ | exact m_intDiv _ _ _ _ | exact m_intArith _ _ _ _ | exact m_typeAssert _ _ _ _ | exact m_makeFunc _ _ _ | exact m_makeInterface _ _ | exact m_field _ _ _ | exact m_index _ _ _ | exact m_extract _ _ | exact m_makeSlice hR _ _ _ | exact m_buildSlice _ _ | exact m_build _ | exact m_box _ _ | exact m_sliceAt _ _ _ _ _ | exact m_slice _ _ _ _ _ | exact m_sliceBounds _ _ _ _ _ _ | exact m_sliceBound _ _ _ | exact m_indexAt _ _ _ | exact m_fieldAt _ _ _ | exact m_storeAt _ _ _ | exact m_loadAt _ _ | exact m_sureAddr _ | exact m_alloc _ _ _ | exact m_loadBytes _ _ _ | exact m_variablesAt _ _ _ | exact m_fieldPlace _ _ | exact m_partAt _ _ _ | exact m_byteOf _ | exact m_results _ _ | exact m_asAddr _ | exact m_asAgg _ | exact m_asString _ | exact m_asBool _ | exact m_asInt _ | exact m_asIntOf _ | exact m_boundsPanic _ _ _ _ | exact m_runtimePanic _ | exact m_part _ _ _ | exact m_elemOf _ | exact m_newVar _ _ | exact m_newRow _ _ | exact m_storeVar _ _ _ | exact m_loadVar _ _ | exact m_storeCells _ _ _ | exact m_loadCells _ _ | exact m_isAgg _ | exact m_sizeOf _ | exact m_zeroValue _ | exact m_typeStr _ | exact m_globalAddr _ | exact m_cutType _ | exact m_underlying _ | exact m_typeInfo _ | exact m_samePointer _ _ | exact m_sameAddr _ _ | exact m_mayBeOne _ _ | exact m_stringish _ | exact m_markStringish _ | exact m_noView _ | exact m_backFromNumber _ | exact m_behindNumber _ | exact m_asNumber _ _ | exact m_cellsIn _ | exact m_numberAt _ | exact m_viewAt _ | exact m_goPanic _ | exact m_unsupported _ | exact m_stuck _ | exact m_program | exact m_choose _ | exact m_setObj _ _ | exact m_getObj _ | exact m_frozen _ | exact m_freeze _ _ | exact m_shape _ | exact m_newObj _ | exact m_store _ _ _ | exact m_load _ _ | exact m_halt _ | exact m_pure _)
    | with_reducible refine m_map ?_
    | with_reducible refine m_bind ?_ (fun _ => ?_)
    | with_reducible refine m_ite ?_ ?_
    | refine m_forA (fun _ _ => ?_) _ _
    | refine m_forL (fun _ _ => ?_) _ _
    | refine m_forR (fun _ _ => ?_) _ _
    | refine m_mapA (fun _ => ?_) _
    | refine m_foldL (fun _ _ => ?_) _ _
    | split
    | dsimp only)

theorem m_complexOp (o : BinOp) (k : FloatKind) (a b c d : Nat) : M P ok (Op.complexOp o k a b c d) := by
  unfold Op.complexOp
  repeat' (first
    | with_reducible (first | assumption | exact m_cquot _ _ _ _ | exact m_ccorr _ _ _ _ _ | exact m_cproduct _ _ _ _ | exact m_cquo _ _ | exact m_cmul _ _ | exact m_csub _ _ | exact m_cadd _ _ | exact m_cconv _ _ _ | exact m_ccmp _ _ _ _ | exact m_carith _ _ _ _ | exact m_floatToInt _ _ _ | exact m_floatToFloat _ _ _ | exact m_unary _ _ | exact m_stringOp _ _ _ | exact m_floatCmp _ _ _ _ | exact m_floatArith _ _ _ _ | exact m_intCmp _ _ _ | exact m_shift _ _ _ _ _ | exact m_intBits _ _ _ _ | exact m_intDiv _ _ _ _ | exact m_intArith _ _ _ _ | exact m_typeAssert _ _ _ _ | exact m_makeFunc _ _ _ | exact m_makeInterface _ _ | exact m_field _ _ _ | exact m_index _ _ _ | exact m_extract _ _ | exact m_makeSlice hR _ _ _ | exact m_buildSlice _ _ | exact m_build _ | exact m_box _ _ | exact m_sliceAt _ _ _ _ _ | exact m_slice _ _ _ _ _ | exact m_sliceBounds _ _ _ _ _ _ | exact m_sliceBound _ _ _ | exact m_indexAt _ _ _ | exact m_fieldAt _ _ _ | exact m_storeAt _ _ _ | exact m_loadAt _ _ | exact m_sureAddr _ | exact m_alloc _ _ _ | exact m_loadBytes _ _ _ | exact m_variablesAt _ _ _ | exact m_fieldPlace _ _ | exact m_partAt _ _ _ | exact m_byteOf _ | exact m_results _ _ | exact m_asAddr _ | exact m_asAgg _ | exact m_asString _ | exact m_asBool _ | exact m_asInt _ | exact m_asIntOf _ | exact m_boundsPanic _ _ _ _ | exact m_runtimePanic _ | exact m_part _ _ _ | exact m_elemOf _ | exact m_newVar _ _ | exact m_newRow _ _ | exact m_storeVar _ _ _ | exact m_loadVar _ _ | exact m_storeCells _ _ _ | exact m_loadCells _ _ | exact m_isAgg _ | exact m_sizeOf _ | exact m_zeroValue _ | exact m_typeStr _ | exact m_globalAddr _ | exact m_cutType _ | exact m_underlying _ | exact m_typeInfo _ | exact m_samePointer _ _ | exact m_sameAddr _ _ | exact m_mayBeOne _ _ | exact m_stringish _ | exact m_markStringish _ | exact m_noView _ | exact m_backFromNumber _ | exact m_behindNumber _ | exact m_asNumber _ _ | exact m_cellsIn _ | exact m_numberAt _ | exact m_viewAt _ | exact m_goPanic _ | exact m_unsupported _ | exact m_stuck _ | exact m_program | exact m_choose _ | exact m_setObj _ _ | exact m_getObj _ | exact m_frozen _ | exact m_freeze _ _ | exact m_shape _ | exact m_newObj _ | exact m_store _ _ _ | exact m_load _ _ | exact m_halt _ | exact m_pure _)
    | with_reducible refine m_map ?_
    | with_reducible refine m_bind ?_ (fun _ => ?_)
    | with_reducible refine m_ite ?_ ?_
    | refine m_forA (fun _ _ => ?_) _ _
    | refine m_forL (fun _ _ => ?_) _ _
    | refine m_forR (fun _ _ => ?_) _ _
    | refine m_mapA (fun _ => ?_) _
    | refine m_foldL (fun _ _ => ?_) _ _
    | split
    | dsimp only)

theorem m_twoPlaces (a b : Addr) : M P ok (Op.twoPlaces a b) := by
  unfold Op.twoPlaces
  repeat' (first
    | with_reducible (first | assumption | exact m_complexOp _ _ _ _ _ _ | exact m_cquot _ _ _ _ | exact m_ccorr _ _ _ _ _ | exact m_cproduct _ _ _ _ | exact m_cquo _ _ | exact m_cmul _ _ | exact m_csub _ _ | exact m_cadd _ _ | exact m_cconv _ _ _ | exact m_ccmp _ _ _ _ | exact m_carith _ _ _ _ | exact m_floatToInt _ _ _ | exact m_floatToFloat _ _ _ | exact m_unary _ _ | exact m_stringOp _ _ _ | exact m_floatCmp _ _ _ _ | exact m_floatArith _ _ _ _ | exact m_intCmp _ _ _ | exact m_shift _ _ _ _ _ | exact m_intBits _ _ _ _ | exact m_intDiv _ _ _ _ | exact m_intArith _ _ _ _ | exact m_typeAssert _ _ _ _ | exact m_makeFunc _ _ _ | exact m_makeInterface _ _ | exact m_field _ _ _ | exact m_index _ _ _ | exact m_extract _ _ | exact m_makeSlice hR _ _ _ | exact m_buildSlice _ _ | exact m_build _ | exact m_box _ _ | exact m_sliceAt _ _ _ _ _ | exact m_slice _ _ _ _ _ | exact m_sliceBounds _ _ _ _ _ _ | exact m_sliceBound _ _ _ | exact m_indexAt _ _ _ | exact m_fieldAt _ _ _ | exact m_storeAt _ _ _ | exact m_loadAt _ _ | exact m_sureAddr _ | exact m_alloc _ _ _ | exact m_loadBytes _ _ _ | exact m_variablesAt _ _ _ | exact m_fieldPlace _ _ | exact m_partAt _ _ _ | exact m_byteOf _ | exact m_results _ _ | exact m_asAddr _ | exact m_asAgg _ | exact m_asString _ | exact m_asBool _ | exact m_asInt _ | exact m_asIntOf _ | exact m_boundsPanic _ _ _ _ | exact m_runtimePanic _ | exact m_part _ _ _ | exact m_elemOf _ | exact m_newVar _ _ | exact m_newRow _ _ | exact m_storeVar _ _ _ | exact m_loadVar _ _ | exact m_storeCells _ _ _ | exact m_loadCells _ _ | exact m_isAgg _ | exact m_sizeOf _ | exact m_zeroValue _ | exact m_typeStr _ | exact m_globalAddr _ | exact m_cutType _ | exact m_underlying _ | exact m_typeInfo _ | exact m_samePointer _ _ | exact m_sameAddr _ _ | exact m_mayBeOne _ _ | exact m_stringish _ | exact m_markStringish _ | exact m_noView _ | exact m_backFromNumber _ | exact m_behindNumber _ | exact m_asNumber _ _ | exact m_cellsIn _ | exact m_numberAt _ | exact m_viewAt _ | exact m_goPanic _ | exact m_unsupported _ | exact m_stuck _ | exact m_program | exact m_choose _ | exact m_setObj _ _ | exact m_getObj _ | exact m_frozen _ | exact m_freeze _ _ | exact m_shape _ | exact m_newObj _ | exact m_store _ _ _ | exact m_load _ _ | exact m_halt _ | exact m_pure _)
    | with_reducible refine m_map ?_
    | with_reducible refine m_bind ?_ (fun _ => ?_)
    | with_reducible refine m_ite ?_ ?_
    | refine m_forA (fun _ _ => ?_) _ _
    | refine m_forL (fun _ _ => ?_) _ _
    | refine m_forR (fun _ _ => ?_) _ _
    | refine m_mapA (fun _ => ?_) _
    | refine m_foldL (fun _ _ => ?_) _ _
    | split
    | dsimp only)

theorem m_addrSub (k : IntKind) (a b : Addr) : M P ok (Op.addrSub k a b) := by
  unfold Op.addrSub
  repeat' (first
    | with_reducible (first | assumption | exact m_twoPlaces _ _ | exact m_complexOp _ _ _ _ _ _ | exact m_cquot _ _ _ _ | exact m_ccorr _ _ _ _ _ | exact m_cproduct _ _ _ _ | exact m_cquo _ _ | exact m_cmul _ _ | exact m_csub _ _ | exact m_cadd _ _ | exact m_cconv _ _ _ | exact m_ccmp _ _ _ _ | exact m_carith _ _ _ _ | exact m_floatToInt _ _ _ | exact m_floatToFloat _ _ _ | exact m_unary _ _ | exact m_stringOp _ _ _ | exact m_floatCmp _ _ _ _ | exact m_floatArith _ _ _ _ | exact m_intCmp _ _ _ | exact m_shift _ _ _ _ _ | exact m_intBits _ _ _ _ | exact m_intDiv _ _ _ _ | exact m_intArith _ _ _ _ | exact m_typeAssert _ _ _ _ | exact m_makeFunc _ _ _ | exact m_makeInterface _ _ | exact m_field _ _ _ | exact m_index _ _ _ | exact m_extract _ _ | exact m_makeSlice hR _ _ _ | exact m_buildSlice _ _ | exact m_build _ | exact m_box _ _ | exact m_sliceAt _ _ _ _ _ | exact m_slice _ _ _ _ _ | exact m_sliceBounds _ _ _ _ _ _ | exact m_sliceBound _ _ _ | exact m_indexAt _ _ _ | exact m_fieldAt _ _ _ | exact m_storeAt _ _ _ | exact m_loadAt _ _ | exact m_sureAddr _ | exact m_alloc _ _ _ | exact m_loadBytes _ _ _ | exact m_variablesAt _ _ _ | exact m_fieldPlace _ _ | exact m_partAt _ _ _ | exact m_byteOf _ | exact m_results _ _ | exact m_asAddr _ | exact m_asAgg _ | exact m_asString _ | exact m_asBool _ | exact m_asInt _ | exact m_asIntOf _ | exact m_boundsPanic _ _ _ _ | exact m_runtimePanic _ | exact m_part _ _ _ | exact m_elemOf _ | exact m_newVar _ _ | exact m_newRow _ _ | exact m_storeVar _ _ _ | exact m_loadVar _ _ | exact m_storeCells _ _ _ | exact m_loadCells _ _ | exact m_isAgg _ | exact m_sizeOf _ | exact m_zeroValue _ | exact m_typeStr _ | exact m_globalAddr _ | exact m_cutType _ | exact m_underlying _ | exact m_typeInfo _ | exact m_samePointer _ _ | exact m_sameAddr _ _ | exact m_mayBeOne _ _ | exact m_stringish _ | exact m_markStringish _ | exact m_noView _ | exact m_backFromNumber _ | exact m_behindNumber _ | exact m_asNumber _ _ | exact m_cellsIn _ | exact m_numberAt _ | exact m_viewAt _ | exact m_goPanic _ | exact m_unsupported _ | exact m_stuck _ | exact m_program | exact m_choose _ | exact m_setObj _ _ | exact m_getObj _ | exact m_frozen _ | exact m_freeze _ _ | exact m_shape _ | exact m_newObj _ | exact m_store _ _ _ | exact m_load _ _ | exact m_halt _ | exact m_pure _)
    | with_reducible refine m_map ?_
    | with_reducible refine m_bind ?_ (fun _ => ?_)
    | with_reducible refine m_ite ?_ ?_
    | refine m_forA (fun _ _ => ?_) _ _
    | refine m_forL (fun _ _ => ?_) _ _
    | refine m_forR (fun _ _ => ?_) _ _
    | refine m_mapA (fun _ => ?_) _
    | refine m_foldL (fun _ _ => ?_) _ _
    | split
    | dsimp only)

theorem m_addrCmp (o : BinOp) (a b : Addr) : M P ok (Op.addrCmp o a b) := by
  unfold Op.addrCmp
  repeat' (first
    | with_reducible (first | assumption | exact m_addrSub _ _ _ | exact m_twoPlaces _ _ | exact m_complexOp _ _ _ _ _ _ | exact m_cquot _ _ _ _ | exact m_ccorr _ _ _ _ _ | exact m_cproduct _ _ _ _ | exact m_cquo _ _ | exact m_cmul _ _ | exact m_csub _ _ | exact m_cadd _ _ | exact m_cconv _ _ _ | exact m_ccmp _ _ _ _ | exact m_carith _ _ _ _ | exact m_floatToInt _ _ _ | exact m_floatToFloat _ _ _ | exact m_unary _ _ | exact m_stringOp _ _ _ | exact m_floatCmp _ _ _ _ | exact m_floatArith _ _ _ _ | exact m_intCmp _ _ _ | exact m_shift _ _ _ _ _ | exact m_intBits _ _ _ _ | exact m_intDiv _ _ _ _ | exact m_intArith _ _ _ _ | exact m_typeAssert _ _ _ _ | exact m_makeFunc _ _ _ | exact m_makeInterface _ _ | exact m_field _ _ _ | exact m_index _ _ _ | exact m_extract _ _ | exact m_makeSlice hR _ _ _ | exact m_buildSlice _ _ | exact m_build _ | exact m_box _ _ | exact m_sliceAt _ _ _ _ _ | exact m_slice _ _ _ _ _ | exact m_sliceBounds _ _ _ _ _ _ | exact m_sliceBound _ _ _ | exact m_indexAt _ _ _ | exact m_fieldAt _ _ _ | exact m_storeAt _ _ _ | exact m_loadAt _ _ | exact m_sureAddr _ | exact m_alloc _ _ _ | exact m_loadBytes _ _ _ | exact m_variablesAt _ _ _ | exact m_fieldPlace _ _ | exact m_partAt _ _ _ | exact m_byteOf _ | exact m_results _ _ | exact m_asAddr _ | exact m_asAgg _ | exact m_asString _ | exact m_asBool _ | exact m_asInt _ | exact m_asIntOf _ | exact m_boundsPanic _ _ _ _ | exact m_runtimePanic _ | exact m_part _ _ _ | exact m_elemOf _ | exact m_newVar _ _ | exact m_newRow _ _ | exact m_storeVar _ _ _ | exact m_loadVar _ _ | exact m_storeCells _ _ _ | exact m_loadCells _ _ | exact m_isAgg _ | exact m_sizeOf _ | exact m_zeroValue _ | exact m_typeStr _ | exact m_globalAddr _ | exact m_cutType _ | exact m_underlying _ | exact m_typeInfo _ | exact m_samePointer _ _ | exact m_sameAddr _ _ | exact m_mayBeOne _ _ | exact m_stringish _ | exact m_markStringish _ | exact m_noView _ | exact m_backFromNumber _ | exact m_behindNumber _ | exact m_asNumber _ _ | exact m_cellsIn _ | exact m_numberAt _ | exact m_viewAt _ | exact m_goPanic _ | exact m_unsupported _ | exact m_stuck _ | exact m_program | exact m_choose _ | exact m_setObj _ _ | exact m_getObj _ | exact m_frozen _ | exact m_freeze _ _ | exact m_shape _ | exact m_newObj _ | exact m_store _ _ _ | exact m_load _ _ | exact m_halt _ | exact m_pure _)
    | with_reducible refine m_map ?_
    | with_reducible refine m_bind ?_ (fun _ => ?_)
    | with_reducible refine m_ite ?_ ?_
    | refine m_forA (fun _ _ => ?_) _ _
    | refine m_forL (fun _ _ => ?_) _ _
    | refine m_forR (fun _ _ => ?_) _ _
    | refine m_mapA (fun _ => ?_) _
    | refine m_foldL (fun _ _ => ?_) _ _
    | split
    | dsimp only)

theorem m_addrMod (k : IntKind) (a : Addr) (n : Int) : M P ok (Op.addrMod k a n) := by
  unfold Op.addrMod
  repeat' (first
    | with_reducible (first | assumption | exact m_addrCmp _ _ _ | exact m_addrSub _ _ _ | exact m_twoPlaces _ _ | exact m_complexOp _ _ _ _ _ _ | exact m_cquot _ _ _ _ | exact m_ccorr _ _ _ _ _ | exact m_cproduct _ _ _ _ | exact m_cquo _ _ | exact m_cmul _ _ | exact m_csub _ _ | exact m_cadd _ _ | exact m_cconv _ _ _ | exact m_ccmp _ _ _ _ | exact m_carith _ _ _ _ | exact m_floatToInt _ _ _ | exact m_floatToFloat _ _ _ | exact m_unary _ _ | exact m_stringOp _ _ _ | exact m_floatCmp _ _ _ _ | exact m_floatArith _ _ _ _ | exact m_intCmp _ _ _ | exact m_shift _ _ _ _ _ | exact m_intBits _ _ _ _ | exact m_intDiv _ _ _ _ | exact m_intArith _ _ _ _ | exact m_typeAssert _ _ _ _ | exact m_makeFunc _ _ _ | exact m_makeInterface _ _ | exact m_field _ _ _ | exact m_index _ _ _ | exact m_extract _ _ | exact m_makeSlice hR _ _ _ | exact m_buildSlice _ _ | exact m_build _ | exact m_box _ _ | exact m_sliceAt _ _ _ _ _ | exact m_slice _ _ _ _ _ | exact m_sliceBounds _ _ _ _ _ _ | exact m_sliceBound _ _ _ | exact m_indexAt _ _ _ | exact m_fieldAt _ _ _ | exact m_storeAt _ _ _ | exact m_loadAt _ _ | exact m_sureAddr _ | exact m_alloc _ _ _ | exact m_loadBytes _ _ _ | exact m_variablesAt _ _ _ | exact m_fieldPlace _ _ | exact m_partAt _ _ _ | exact m_byteOf _ | exact m_results _ _ | exact m_asAddr _ | exact m_asAgg _ | exact m_asString _ | exact m_asBool _ | exact m_asInt _ | exact m_asIntOf _ | exact m_boundsPanic _ _ _ _ | exact m_runtimePanic _ | exact m_part _ _ _ | exact m_elemOf _ | exact m_newVar _ _ | exact m_newRow _ _ | exact m_storeVar _ _ _ | exact m_loadVar _ _ | exact m_storeCells _ _ _ | exact m_loadCells _ _ | exact m_isAgg _ | exact m_sizeOf _ | exact m_zeroValue _ | exact m_typeStr _ | exact m_globalAddr _ | exact m_cutType _ | exact m_underlying _ | exact m_typeInfo _ | exact m_samePointer _ _ | exact m_sameAddr _ _ | exact m_mayBeOne _ _ | exact m_stringish _ | exact m_markStringish _ | exact m_noView _ | exact m_backFromNumber _ | exact m_behindNumber _ | exact m_asNumber _ _ | exact m_cellsIn _ | exact m_numberAt _ | exact m_viewAt _ | exact m_goPanic _ | exact m_unsupported _ | exact m_stuck _ | exact m_program | exact m_choose _ | exact m_setObj _ _ | exact m_getObj _ | exact m_frozen _ | exact m_freeze _ _ | exact m_shape _ | exact m_newObj _ | exact m_store _ _ _ | exact m_load _ _ | exact m_halt _ | exact m_pure _)
    | with_reducible refine m_map ?_
    | with_reducible refine m_bind ?_ (fun _ => ?_)
    | with_reducible refine m_ite ?_ ?_
    | refine m_forA (fun _ _ => ?_) _ _
    | refine m_forL (fun _ _ => ?_) _ _
    | refine m_forR (fun _ _ => ?_) _ _
    | refine m_mapA (fun _ => ?_) _
    | refine m_foldL (fun _ _ => ?_) _ _
    | split
    | dsimp only)

theorem m_equalIn : ∀ (d : Nat) (t : TypeId) (x y : Value), M P ok (Op.equalIn d t x y)
  | 0, _, _, _ => by unfold Op.equalIn; trivial
  | d + 1, t, x, y => by
    unfold Op.equalIn
    have ih := m_equalIn d
    repeat' (first
      | with_reducible (first | assumption | exact ih _ _ _ | exact m_addrMod _ _ _ | exact m_addrCmp _ _ _ | exact m_addrSub _ _ _ | exact m_twoPlaces _ _ | exact m_complexOp _ _ _ _ _ _ | exact m_cquot _ _ _ _ | exact m_ccorr _ _ _ _ _ | exact m_cproduct _ _ _ _ | exact m_cquo _ _ | exact m_cmul _ _ | exact m_csub _ _ | exact m_cadd _ _ | exact m_cconv _ _ _ | exact m_ccmp _ _ _ _ | exact m_carith _ _ _ _ | exact m_floatToInt _ _ _ | exact m_floatToFloat _ _ _ | exact m_unary _ _ | exact m_stringOp _ _ _ | exact m_floatCmp _ _ _ _ | exact m_floatArith _ _ _ _ | exact m_intCmp _ _ _ | exact m_shift _ _ _ _ _ | exact m_intBits _ _ _ _ | exact m_intDiv _ _ _ _ | exact m_intArith _ _ _ _ | exact m_typeAssert _ _ _ _ | exact m_makeFunc _ _ _ | exact m_makeInterface _ _ | exact m_field _ _ _ | exact m_index _ _ _ | exact m_extract _ _ | exact m_makeSlice hR _ _ _ | exact m_buildSlice _ _ | exact m_build _ | exact m_box _ _ | exact m_sliceAt _ _ _ _ _ | exact m_slice _ _ _ _ _ | exact m_sliceBounds _ _ _ _ _ _ | exact m_sliceBound _ _ _ | exact m_indexAt _ _ _ | exact m_fieldAt _ _ _ | exact m_storeAt _ _ _ | exact m_loadAt _ _ | exact m_sureAddr _ | exact m_alloc _ _ _ | exact m_loadBytes _ _ _ | exact m_variablesAt _ _ _ | exact m_fieldPlace _ _ | exact m_partAt _ _ _ | exact m_byteOf _ | exact m_results _ _ | exact m_asAddr _ | exact m_asAgg _ | exact m_asString _ | exact m_asBool _ | exact m_asInt _ | exact m_asIntOf _ | exact m_boundsPanic _ _ _ _ | exact m_runtimePanic _ | exact m_part _ _ _ | exact m_elemOf _ | exact m_newVar _ _ | exact m_newRow _ _ | exact m_storeVar _ _ _ | exact m_loadVar _ _ | exact m_storeCells _ _ _ | exact m_loadCells _ _ | exact m_isAgg _ | exact m_sizeOf _ | exact m_zeroValue _ | exact m_typeStr _ | exact m_globalAddr _ | exact m_cutType _ | exact m_underlying _ | exact m_typeInfo _ | exact m_samePointer _ _ | exact m_sameAddr _ _ | exact m_mayBeOne _ _ | exact m_stringish _ | exact m_markStringish _ | exact m_noView _ | exact m_backFromNumber _ | exact m_behindNumber _ | exact m_asNumber _ _ | exact m_cellsIn _ | exact m_numberAt _ | exact m_viewAt _ | exact m_goPanic _ | exact m_unsupported _ | exact m_stuck _ | exact m_program | exact m_choose _ | exact m_setObj _ _ | exact m_getObj _ | exact m_frozen _ | exact m_freeze _ _ | exact m_shape _ | exact m_newObj _ | exact m_store _ _ _ | exact m_load _ _ | exact m_halt _ | exact m_pure _)
      | with_reducible refine m_map ?_
      | with_reducible refine m_bind ?_ (fun _ => ?_)
      | with_reducible refine m_ite ?_ ?_
      | refine m_forA (fun _ _ => ?_) _ _
      | refine m_forL (fun _ _ => ?_) _ _
      | refine m_forR (fun _ _ => ?_) _ _
      | refine m_mapA (fun _ => ?_) _
      | refine m_foldL (fun _ _ => ?_) _ _
      | split
      | dsimp only)

theorem m_equal (t : TypeId) (x y : Value) : M P ok (Op.equal t x y) := by
  unfold Op.equal
  repeat' (first
    | with_reducible (first | assumption | exact m_equalIn _ _ _ _ | exact m_addrMod _ _ _ | exact m_addrCmp _ _ _ | exact m_addrSub _ _ _ | exact m_twoPlaces _ _ | exact m_complexOp _ _ _ _ _ _ | exact m_cquot _ _ _ _ | exact m_ccorr _ _ _ _ _ | exact m_cproduct _ _ _ _ | exact m_cquo _ _ | exact m_cmul _ _ | exact m_csub _ _ | exact m_cadd _ _ | exact m_cconv _ _ _ | exact m_ccmp _ _ _ _ | exact m_carith _ _ _ _ | exact m_floatToInt _ _ _ | exact m_floatToFloat _ _ _ | exact m_unary _ _ | exact m_stringOp _ _ _ | exact m_floatCmp _ _ _ _ | exact m_floatArith _ _ _ _ | exact m_intCmp _ _ _ | exact m_shift _ _ _ _ _ | exact m_intBits _ _ _ _ | exact m_intDiv _ _ _ _ | exact m_intArith _ _ _ _ | exact m_typeAssert _ _ _ _ | exact m_makeFunc _ _ _ | exact m_makeInterface _ _ | exact m_field _ _ _ | exact m_index _ _ _ | exact m_extract _ _ | exact m_makeSlice hR _ _ _ | exact m_buildSlice _ _ | exact m_build _ | exact m_box _ _ | exact m_sliceAt _ _ _ _ _ | exact m_slice _ _ _ _ _ | exact m_sliceBounds _ _ _ _ _ _ | exact m_sliceBound _ _ _ | exact m_indexAt _ _ _ | exact m_fieldAt _ _ _ | exact m_storeAt _ _ _ | exact m_loadAt _ _ | exact m_sureAddr _ | exact m_alloc _ _ _ | exact m_loadBytes _ _ _ | exact m_variablesAt _ _ _ | exact m_fieldPlace _ _ | exact m_partAt _ _ _ | exact m_byteOf _ | exact m_results _ _ | exact m_asAddr _ | exact m_asAgg _ | exact m_asString _ | exact m_asBool _ | exact m_asInt _ | exact m_asIntOf _ | exact m_boundsPanic _ _ _ _ | exact m_runtimePanic _ | exact m_part _ _ _ | exact m_elemOf _ | exact m_newVar _ _ | exact m_newRow _ _ | exact m_storeVar _ _ _ | exact m_loadVar _ _ | exact m_storeCells _ _ _ | exact m_loadCells _ _ | exact m_isAgg _ | exact m_sizeOf _ | exact m_zeroValue _ | exact m_typeStr _ | exact m_globalAddr _ | exact m_cutType _ | exact m_underlying _ | exact m_typeInfo _ | exact m_samePointer _ _ | exact m_sameAddr _ _ | exact m_mayBeOne _ _ | exact m_stringish _ | exact m_markStringish _ | exact m_noView _ | exact m_backFromNumber _ | exact m_behindNumber _ | exact m_asNumber _ _ | exact m_cellsIn _ | exact m_numberAt _ | exact m_viewAt _ | exact m_goPanic _ | exact m_unsupported _ | exact m_stuck _ | exact m_program | exact m_choose _ | exact m_setObj _ _ | exact m_getObj _ | exact m_frozen _ | exact m_freeze _ _ | exact m_shape _ | exact m_newObj _ | exact m_store _ _ _ | exact m_load _ _ | exact m_halt _ | exact m_pure _)
    | with_reducible refine m_map ?_
    | with_reducible refine m_bind ?_ (fun _ => ?_)
    | with_reducible refine m_ite ?_ ?_
    | refine m_forA (fun _ _ => ?_) _ _
    | refine m_forL (fun _ _ => ?_) _ _
    | refine m_forR (fun _ _ => ?_) _ _
    | refine m_mapA (fun _ => ?_) _
    | refine m_foldL (fun _ _ => ?_) _ _
    | split
    | dsimp only)

theorem m_eqGuardIn : ∀ (d : Nat) (t : TypeId) (x y : Value), M P ok (Op.eqGuardIn d t x y)
  | 0, _, _, _ => by unfold Op.eqGuardIn; trivial
  | d + 1, t, x, y => by
    unfold Op.eqGuardIn
    have ih := m_eqGuardIn d
    repeat' (first
      | with_reducible (first | assumption | exact ih _ _ _ | exact m_equal _ _ _ | exact m_equalIn _ _ _ _ | exact m_addrMod _ _ _ | exact m_addrCmp _ _ _ | exact m_addrSub _ _ _ | exact m_twoPlaces _ _ | exact m_complexOp _ _ _ _ _ _ | exact m_cquot _ _ _ _ | exact m_ccorr _ _ _ _ _ | exact m_cproduct _ _ _ _ | exact m_cquo _ _ | exact m_cmul _ _ | exact m_csub _ _ | exact m_cadd _ _ | exact m_cconv _ _ _ | exact m_ccmp _ _ _ _ | exact m_carith _ _ _ _ | exact m_floatToInt _ _ _ | exact m_floatToFloat _ _ _ | exact m_unary _ _ | exact m_stringOp _ _ _ | exact m_floatCmp _ _ _ _ | exact m_floatArith _ _ _ _ | exact m_intCmp _ _ _ | exact m_shift _ _ _ _ _ | exact m_intBits _ _ _ _ | exact m_intDiv _ _ _ _ | exact m_intArith _ _ _ _ | exact m_typeAssert _ _ _ _ | exact m_makeFunc _ _ _ | exact m_makeInterface _ _ | exact m_field _ _ _ | exact m_index _ _ _ | exact m_extract _ _ | exact m_makeSlice hR _ _ _ | exact m_buildSlice _ _ | exact m_build _ | exact m_box _ _ | exact m_sliceAt _ _ _ _ _ | exact m_slice _ _ _ _ _ | exact m_sliceBounds _ _ _ _ _ _ | exact m_sliceBound _ _ _ | exact m_indexAt _ _ _ | exact m_fieldAt _ _ _ | exact m_storeAt _ _ _ | exact m_loadAt _ _ | exact m_sureAddr _ | exact m_alloc _ _ _ | exact m_loadBytes _ _ _ | exact m_variablesAt _ _ _ | exact m_fieldPlace _ _ | exact m_partAt _ _ _ | exact m_byteOf _ | exact m_results _ _ | exact m_asAddr _ | exact m_asAgg _ | exact m_asString _ | exact m_asBool _ | exact m_asInt _ | exact m_asIntOf _ | exact m_boundsPanic _ _ _ _ | exact m_runtimePanic _ | exact m_part _ _ _ | exact m_elemOf _ | exact m_newVar _ _ | exact m_newRow _ _ | exact m_storeVar _ _ _ | exact m_loadVar _ _ | exact m_storeCells _ _ _ | exact m_loadCells _ _ | exact m_isAgg _ | exact m_sizeOf _ | exact m_zeroValue _ | exact m_typeStr _ | exact m_globalAddr _ | exact m_cutType _ | exact m_underlying _ | exact m_typeInfo _ | exact m_samePointer _ _ | exact m_sameAddr _ _ | exact m_mayBeOne _ _ | exact m_stringish _ | exact m_markStringish _ | exact m_noView _ | exact m_backFromNumber _ | exact m_behindNumber _ | exact m_asNumber _ _ | exact m_cellsIn _ | exact m_numberAt _ | exact m_viewAt _ | exact m_goPanic _ | exact m_unsupported _ | exact m_stuck _ | exact m_program | exact m_choose _ | exact m_setObj _ _ | exact m_getObj _ | exact m_frozen _ | exact m_freeze _ _ | exact m_shape _ | exact m_newObj _ | exact m_store _ _ _ | exact m_load _ _ | exact m_halt _ | exact m_pure _)
      | with_reducible refine m_map ?_
      | with_reducible refine m_bind ?_ (fun _ => ?_)
      | with_reducible refine m_ite ?_ ?_
      | refine m_forA (fun _ _ => ?_) _ _
      | refine m_forL (fun _ _ => ?_) _ _
      | refine m_forR (fun _ _ => ?_) _ _
      | refine m_mapA (fun _ => ?_) _
      | refine m_foldL (fun _ _ => ?_) _ _
      | split
      | dsimp only)

theorem m_unsafeAdd (a : Array TypeId) (t : TypeId) (v : Array Value) : M P ok (Builtin.unsafeAdd_ a t v) := by
  rw [show v = v.toList.toArray from by simp]
  generalize v.toList = l
  rcases l with _ | ⟨x, _ | ⟨y, _ | ⟨z, r⟩⟩⟩ <;> (try cases x) <;> (try cases y)
  all_goals (try (exact trivial))
  all_goals unfold Builtin.unsafeAdd_
  all_goals (refine m_bind ?_ (fun _ => ?_))
  all_goals (repeat' (first
      | with_reducible (first | assumption | exact m_eqGuardIn _ _ _ _ | exact m_equal _ _ _ | exact m_equalIn _ _ _ _ | exact m_addrMod _ _ _ | exact m_addrCmp _ _ _ | exact m_addrSub _ _ _ | exact m_twoPlaces _ _ | exact m_complexOp _ _ _ _ _ _ | exact m_cquot _ _ _ _ | exact m_ccorr _ _ _ _ _ | exact m_cproduct _ _ _ _ | exact m_cquo _ _ | exact m_cmul _ _ | exact m_csub _ _ | exact m_cadd _ _ | exact m_cconv _ _ _ | exact m_ccmp _ _ _ _ | exact m_carith _ _ _ _ | exact m_floatToInt _ _ _ | exact m_floatToFloat _ _ _ | exact m_unary _ _ | exact m_stringOp _ _ _ | exact m_floatCmp _ _ _ _ | exact m_floatArith _ _ _ _ | exact m_intCmp _ _ _ | exact m_shift _ _ _ _ _ | exact m_intBits _ _ _ _ | exact m_intDiv _ _ _ _ | exact m_intArith _ _ _ _ | exact m_typeAssert _ _ _ _ | exact m_makeFunc _ _ _ | exact m_makeInterface _ _ | exact m_field _ _ _ | exact m_index _ _ _ | exact m_extract _ _ | exact m_makeSlice hR _ _ _ | exact m_buildSlice _ _ | exact m_build _ | exact m_box _ _ | exact m_sliceAt _ _ _ _ _ | exact m_slice _ _ _ _ _ | exact m_sliceBounds _ _ _ _ _ _ | exact m_sliceBound _ _ _ | exact m_indexAt _ _ _ | exact m_fieldAt _ _ _ | exact m_storeAt _ _ _ | exact m_loadAt _ _ | exact m_sureAddr _ | exact m_alloc _ _ _ | exact m_loadBytes _ _ _ | exact m_variablesAt _ _ _ | exact m_fieldPlace _ _ | exact m_partAt _ _ _ | exact m_byteOf _ | exact m_results _ _ | exact m_asAddr _ | exact m_asAgg _ | exact m_asString _ | exact m_asBool _ | exact m_asInt _ | exact m_asIntOf _ | exact m_boundsPanic _ _ _ _ | exact m_runtimePanic _ | exact m_part _ _ _ | exact m_elemOf _ | exact m_newVar _ _ | exact m_newRow _ _ | exact m_storeVar _ _ _ | exact m_loadVar _ _ | exact m_storeCells _ _ _ | exact m_loadCells _ _ | exact m_isAgg _ | exact m_sizeOf _ | exact m_zeroValue _ | exact m_typeStr _ | exact m_globalAddr _ | exact m_cutType _ | exact m_underlying _ | exact m_typeInfo _ | exact m_samePointer _ _ | exact m_sameAddr _ _ | exact m_mayBeOne _ _ | exact m_stringish _ | exact m_markStringish _ | exact m_noView _ | exact m_backFromNumber _ | exact m_behindNumber _ | exact m_asNumber _ _ | exact m_cellsIn _ | exact m_numberAt _ | exact m_viewAt _ | exact m_goPanic _ | exact m_unsupported _ | exact m_stuck _ | exact m_program | exact m_choose _ | exact m_setObj _ _ | exact m_getObj _ | exact m_frozen _ | exact m_freeze _ _ | exact m_shape _ | exact m_newObj _ | exact m_store _ _ _ | exact m_load _ _ | exact m_halt _ | exact m_pure _)
      | with_reducible refine m_map ?_
      | with_reducible refine m_bind ?_ (fun _ => ?_)
      | with_reducible refine m_ite ?_ ?_
      | refine m_forA (fun _ _ => ?_) _ _
      | refine m_forL (fun _ _ => ?_) _ _
      | refine m_forR (fun _ _ => ?_) _ _
      | refine m_mapA (fun _ => ?_) _
      | refine m_foldL (fun _ _ => ?_) _ _
      | split
      | dsimp only))

theorem m_movedNumber (t : TypeId) (x y : Value) : M P ok (movedNumber t x y) := by
  unfold movedNumber
  repeat' (first
    | with_reducible (first | assumption | exact m_unsafeAdd _ _ _ | exact m_eqGuardIn _ _ _ _ | exact m_equal _ _ _ | exact m_equalIn _ _ _ _ | exact m_addrMod _ _ _ | exact m_addrCmp _ _ _ | exact m_addrSub _ _ _ | exact m_twoPlaces _ _ | exact m_complexOp _ _ _ _ _ _ | exact m_cquot _ _ _ _ | exact m_ccorr _ _ _ _ _ | exact m_cproduct _ _ _ _ | exact m_cquo _ _ | exact m_cmul _ _ | exact m_csub _ _ | exact m_cadd _ _ | exact m_cconv _ _ _ | exact m_ccmp _ _ _ _ | exact m_carith _ _ _ _ | exact m_floatToInt _ _ _ | exact m_floatToFloat _ _ _ | exact m_unary _ _ | exact m_stringOp _ _ _ | exact m_floatCmp _ _ _ _ | exact m_floatArith _ _ _ _ | exact m_intCmp _ _ _ | exact m_shift _ _ _ _ _ | exact m_intBits _ _ _ _ | exact m_intDiv _ _ _ _ | exact m_intArith _ _ _ _ | exact m_typeAssert _ _ _ _ | exact m_makeFunc _ _ _ | exact m_makeInterface _ _ | exact m_field _ _ _ | exact m_index _ _ _ | exact m_extract _ _ | exact m_makeSlice hR _ _ _ | exact m_buildSlice _ _ | exact m_build _ | exact m_box _ _ | exact m_sliceAt _ _ _ _ _ | exact m_slice _ _ _ _ _ | exact m_sliceBounds _ _ _ _ _ _ | exact m_sliceBound _ _ _ | exact m_indexAt _ _ _ | exact m_fieldAt _ _ _ | exact m_storeAt _ _ _ | exact m_loadAt _ _ | exact m_sureAddr _ | exact m_alloc _ _ _ | exact m_loadBytes _ _ _ | exact m_variablesAt _ _ _ | exact m_fieldPlace _ _ | exact m_partAt _ _ _ | exact m_byteOf _ | exact m_results _ _ | exact m_asAddr _ | exact m_asAgg _ | exact m_asString _ | exact m_asBool _ | exact m_asInt _ | exact m_asIntOf _ | exact m_boundsPanic _ _ _ _ | exact m_runtimePanic _ | exact m_part _ _ _ | exact m_elemOf _ | exact m_newVar _ _ | exact m_newRow _ _ | exact m_storeVar _ _ _ | exact m_loadVar _ _ | exact m_storeCells _ _ _ | exact m_loadCells _ _ | exact m_isAgg _ | exact m_sizeOf _ | exact m_zeroValue _ | exact m_typeStr _ | exact m_globalAddr _ | exact m_cutType _ | exact m_underlying _ | exact m_typeInfo _ | exact m_samePointer _ _ | exact m_sameAddr _ _ | exact m_mayBeOne _ _ | exact m_stringish _ | exact m_markStringish _ | exact m_noView _ | exact m_backFromNumber _ | exact m_behindNumber _ | exact m_asNumber _ _ | exact m_cellsIn _ | exact m_numberAt _ | exact m_viewAt _ | exact m_goPanic _ | exact m_unsupported _ | exact m_stuck _ | exact m_program | exact m_choose _ | exact m_setObj _ _ | exact m_getObj _ | exact m_frozen _ | exact m_freeze _ _ | exact m_shape _ | exact m_newObj _ | exact m_store _ _ _ | exact m_load _ _ | exact m_halt _ | exact m_pure _)
    | with_reducible refine m_map ?_
    | with_reducible refine m_bind ?_ (fun _ => ?_)
    | with_reducible refine m_ite ?_ ?_
    | refine m_forA (fun _ _ => ?_) _ _
    | refine m_forL (fun _ _ => ?_) _ _
    | refine m_forR (fun _ _ => ?_) _ _
    | refine m_mapA (fun _ => ?_) _
    | refine m_foldL (fun _ _ => ?_) _ _
    | split
    | dsimp only)

theorem m_movedPointer (t : TypeId) (x y : Value) : M P ok (movedPointer t x y) := by
  unfold movedPointer
  repeat' (first
    | with_reducible (first | assumption | exact m_movedNumber _ _ _ | exact m_unsafeAdd _ _ _ | exact m_eqGuardIn _ _ _ _ | exact m_equal _ _ _ | exact m_equalIn _ _ _ _ | exact m_addrMod _ _ _ | exact m_addrCmp _ _ _ | exact m_addrSub _ _ _ | exact m_twoPlaces _ _ | exact m_complexOp _ _ _ _ _ _ | exact m_cquot _ _ _ _ | exact m_ccorr _ _ _ _ _ | exact m_cproduct _ _ _ _ | exact m_cquo _ _ | exact m_cmul _ _ | exact m_csub _ _ | exact m_cadd _ _ | exact m_cconv _ _ _ | exact m_ccmp _ _ _ _ | exact m_carith _ _ _ _ | exact m_floatToInt _ _ _ | exact m_floatToFloat _ _ _ | exact m_unary _ _ | exact m_stringOp _ _ _ | exact m_floatCmp _ _ _ _ | exact m_floatArith _ _ _ _ | exact m_intCmp _ _ _ | exact m_shift _ _ _ _ _ | exact m_intBits _ _ _ _ | exact m_intDiv _ _ _ _ | exact m_intArith _ _ _ _ | exact m_typeAssert _ _ _ _ | exact m_makeFunc _ _ _ | exact m_makeInterface _ _ | exact m_field _ _ _ | exact m_index _ _ _ | exact m_extract _ _ | exact m_makeSlice hR _ _ _ | exact m_buildSlice _ _ | exact m_build _ | exact m_box _ _ | exact m_sliceAt _ _ _ _ _ | exact m_slice _ _ _ _ _ | exact m_sliceBounds _ _ _ _ _ _ | exact m_sliceBound _ _ _ | exact m_indexAt _ _ _ | exact m_fieldAt _ _ _ | exact m_storeAt _ _ _ | exact m_loadAt _ _ | exact m_sureAddr _ | exact m_alloc _ _ _ | exact m_loadBytes _ _ _ | exact m_variablesAt _ _ _ | exact m_fieldPlace _ _ | exact m_partAt _ _ _ | exact m_byteOf _ | exact m_results _ _ | exact m_asAddr _ | exact m_asAgg _ | exact m_asString _ | exact m_asBool _ | exact m_asInt _ | exact m_asIntOf _ | exact m_boundsPanic _ _ _ _ | exact m_runtimePanic _ | exact m_part _ _ _ | exact m_elemOf _ | exact m_newVar _ _ | exact m_newRow _ _ | exact m_storeVar _ _ _ | exact m_loadVar _ _ | exact m_storeCells _ _ _ | exact m_loadCells _ _ | exact m_isAgg _ | exact m_sizeOf _ | exact m_zeroValue _ | exact m_typeStr _ | exact m_globalAddr _ | exact m_cutType _ | exact m_underlying _ | exact m_typeInfo _ | exact m_samePointer _ _ | exact m_sameAddr _ _ | exact m_mayBeOne _ _ | exact m_stringish _ | exact m_markStringish _ | exact m_noView _ | exact m_backFromNumber _ | exact m_behindNumber _ | exact m_asNumber _ _ | exact m_cellsIn _ | exact m_numberAt _ | exact m_viewAt _ | exact m_goPanic _ | exact m_unsupported _ | exact m_stuck _ | exact m_program | exact m_choose _ | exact m_setObj _ _ | exact m_getObj _ | exact m_frozen _ | exact m_freeze _ _ | exact m_shape _ | exact m_newObj _ | exact m_store _ _ _ | exact m_load _ _ | exact m_halt _ | exact m_pure _)
    | with_reducible refine m_map ?_
    | with_reducible refine m_bind ?_ (fun _ => ?_)
    | with_reducible refine m_ite ?_ ?_
    | refine m_forA (fun _ _ => ?_) _ _
    | refine m_forL (fun _ _ => ?_) _ _
    | refine m_forR (fun _ _ => ?_) _ _
    | refine m_mapA (fun _ => ?_) _
    | refine m_foldL (fun _ _ => ?_) _ _
    | split
    | dsimp only)

theorem m_eqGuard (o : BinOp) (t : TypeId) (x y : Operand) (a b : Value) : M P ok (eqGuard o t x y a b) := by
  unfold eqGuard
  repeat' (first
    | with_reducible (first | assumption | exact m_movedPointer _ _ _ | exact m_movedNumber _ _ _ | exact m_unsafeAdd _ _ _ | exact m_eqGuardIn _ _ _ _ | exact m_equal _ _ _ | exact m_equalIn _ _ _ _ | exact m_addrMod _ _ _ | exact m_addrCmp _ _ _ | exact m_addrSub _ _ _ | exact m_twoPlaces _ _ | exact m_complexOp _ _ _ _ _ _ | exact m_cquot _ _ _ _ | exact m_ccorr _ _ _ _ _ | exact m_cproduct _ _ _ _ | exact m_cquo _ _ | exact m_cmul _ _ | exact m_csub _ _ | exact m_cadd _ _ | exact m_cconv _ _ _ | exact m_ccmp _ _ _ _ | exact m_carith _ _ _ _ | exact m_floatToInt _ _ _ | exact m_floatToFloat _ _ _ | exact m_unary _ _ | exact m_stringOp _ _ _ | exact m_floatCmp _ _ _ _ | exact m_floatArith _ _ _ _ | exact m_intCmp _ _ _ | exact m_shift _ _ _ _ _ | exact m_intBits _ _ _ _ | exact m_intDiv _ _ _ _ | exact m_intArith _ _ _ _ | exact m_typeAssert _ _ _ _ | exact m_makeFunc _ _ _ | exact m_makeInterface _ _ | exact m_field _ _ _ | exact m_index _ _ _ | exact m_extract _ _ | exact m_makeSlice hR _ _ _ | exact m_buildSlice _ _ | exact m_build _ | exact m_box _ _ | exact m_sliceAt _ _ _ _ _ | exact m_slice _ _ _ _ _ | exact m_sliceBounds _ _ _ _ _ _ | exact m_sliceBound _ _ _ | exact m_indexAt _ _ _ | exact m_fieldAt _ _ _ | exact m_storeAt _ _ _ | exact m_loadAt _ _ | exact m_sureAddr _ | exact m_alloc _ _ _ | exact m_loadBytes _ _ _ | exact m_variablesAt _ _ _ | exact m_fieldPlace _ _ | exact m_partAt _ _ _ | exact m_byteOf _ | exact m_results _ _ | exact m_asAddr _ | exact m_asAgg _ | exact m_asString _ | exact m_asBool _ | exact m_asInt _ | exact m_asIntOf _ | exact m_boundsPanic _ _ _ _ | exact m_runtimePanic _ | exact m_part _ _ _ | exact m_elemOf _ | exact m_newVar _ _ | exact m_newRow _ _ | exact m_storeVar _ _ _ | exact m_loadVar _ _ | exact m_storeCells _ _ _ | exact m_loadCells _ _ | exact m_isAgg _ | exact m_sizeOf _ | exact m_zeroValue _ | exact m_typeStr _ | exact m_globalAddr _ | exact m_cutType _ | exact m_underlying _ | exact m_typeInfo _ | exact m_samePointer _ _ | exact m_sameAddr _ _ | exact m_mayBeOne _ _ | exact m_stringish _ | exact m_markStringish _ | exact m_noView _ | exact m_backFromNumber _ | exact m_behindNumber _ | exact m_asNumber _ _ | exact m_cellsIn _ | exact m_numberAt _ | exact m_viewAt _ | exact m_goPanic _ | exact m_unsupported _ | exact m_stuck _ | exact m_program | exact m_choose _ | exact m_setObj _ _ | exact m_getObj _ | exact m_frozen _ | exact m_freeze _ _ | exact m_shape _ | exact m_newObj _ | exact m_store _ _ _ | exact m_load _ _ | exact m_halt _ | exact m_pure _)
    | with_reducible refine m_map ?_
    | with_reducible refine m_bind ?_ (fun _ => ?_)
    | with_reducible refine m_ite ?_ ?_
    | refine m_forA (fun _ _ => ?_) _ _
    | refine m_forL (fun _ _ => ?_) _ _
    | refine m_forR (fun _ _ => ?_) _ _
    | refine m_mapA (fun _ => ?_) _
    | refine m_foldL (fun _ _ => ?_) _ _
    | split
    | dsimp only)

theorem m_binOp (o : BinOp) (t : TypeId) (x y : Value) : M P ok (Go.binOp o t x y) := by
  unfold Go.binOp
  repeat' (first
    | with_reducible (first | assumption | exact m_eqGuard _ _ _ _ _ _ | exact m_movedPointer _ _ _ | exact m_movedNumber _ _ _ | exact m_unsafeAdd _ _ _ | exact m_eqGuardIn _ _ _ _ | exact m_equal _ _ _ | exact m_equalIn _ _ _ _ | exact m_addrMod _ _ _ | exact m_addrCmp _ _ _ | exact m_addrSub _ _ _ | exact m_twoPlaces _ _ | exact m_complexOp _ _ _ _ _ _ | exact m_cquot _ _ _ _ | exact m_ccorr _ _ _ _ _ | exact m_cproduct _ _ _ _ | exact m_cquo _ _ | exact m_cmul _ _ | exact m_csub _ _ | exact m_cadd _ _ | exact m_cconv _ _ _ | exact m_ccmp _ _ _ _ | exact m_carith _ _ _ _ | exact m_floatToInt _ _ _ | exact m_floatToFloat _ _ _ | exact m_unary _ _ | exact m_stringOp _ _ _ | exact m_floatCmp _ _ _ _ | exact m_floatArith _ _ _ _ | exact m_intCmp _ _ _ | exact m_shift _ _ _ _ _ | exact m_intBits _ _ _ _ | exact m_intDiv _ _ _ _ | exact m_intArith _ _ _ _ | exact m_typeAssert _ _ _ _ | exact m_makeFunc _ _ _ | exact m_makeInterface _ _ | exact m_field _ _ _ | exact m_index _ _ _ | exact m_extract _ _ | exact m_makeSlice hR _ _ _ | exact m_buildSlice _ _ | exact m_build _ | exact m_box _ _ | exact m_sliceAt _ _ _ _ _ | exact m_slice _ _ _ _ _ | exact m_sliceBounds _ _ _ _ _ _ | exact m_sliceBound _ _ _ | exact m_indexAt _ _ _ | exact m_fieldAt _ _ _ | exact m_storeAt _ _ _ | exact m_loadAt _ _ | exact m_sureAddr _ | exact m_alloc _ _ _ | exact m_loadBytes _ _ _ | exact m_variablesAt _ _ _ | exact m_fieldPlace _ _ | exact m_partAt _ _ _ | exact m_byteOf _ | exact m_results _ _ | exact m_asAddr _ | exact m_asAgg _ | exact m_asString _ | exact m_asBool _ | exact m_asInt _ | exact m_asIntOf _ | exact m_boundsPanic _ _ _ _ | exact m_runtimePanic _ | exact m_part _ _ _ | exact m_elemOf _ | exact m_newVar _ _ | exact m_newRow _ _ | exact m_storeVar _ _ _ | exact m_loadVar _ _ | exact m_storeCells _ _ _ | exact m_loadCells _ _ | exact m_isAgg _ | exact m_sizeOf _ | exact m_zeroValue _ | exact m_typeStr _ | exact m_globalAddr _ | exact m_cutType _ | exact m_underlying _ | exact m_typeInfo _ | exact m_samePointer _ _ | exact m_sameAddr _ _ | exact m_mayBeOne _ _ | exact m_stringish _ | exact m_markStringish _ | exact m_noView _ | exact m_backFromNumber _ | exact m_behindNumber _ | exact m_asNumber _ _ | exact m_cellsIn _ | exact m_numberAt _ | exact m_viewAt _ | exact m_goPanic _ | exact m_unsupported _ | exact m_stuck _ | exact m_program | exact m_choose _ | exact m_setObj _ _ | exact m_getObj _ | exact m_frozen _ | exact m_freeze _ _ | exact m_shape _ | exact m_newObj _ | exact m_store _ _ _ | exact m_load _ _ | exact m_halt _ | exact m_pure _)
    | with_reducible refine m_map ?_
    | with_reducible refine m_bind ?_ (fun _ => ?_)
    | with_reducible refine m_ite ?_ ?_
    | refine m_forA (fun _ _ => ?_) _ _
    | refine m_forL (fun _ _ => ?_) _ _
    | refine m_forR (fun _ _ => ?_) _ _
    | refine m_mapA (fun _ => ?_) _
    | refine m_foldL (fun _ _ => ?_) _ _
    | split
    | dsimp only)

theorem m_intToInt (k : IntKind) (n : Int) : M P ok (Conv.intToInt k n) := by
  unfold Conv.intToInt
  repeat' (first
    | with_reducible (first | assumption | exact m_binOp _ _ _ _ | exact m_eqGuard _ _ _ _ _ _ | exact m_movedPointer _ _ _ | exact m_movedNumber _ _ _ | exact m_unsafeAdd _ _ _ | exact m_eqGuardIn _ _ _ _ | exact m_equal _ _ _ | exact m_equalIn _ _ _ _ | exact m_addrMod _ _ _ | exact m_addrCmp _ _ _ | exact m_addrSub _ _ _ | exact m_twoPlaces _ _ | exact m_complexOp _ _ _ _ _ _ | exact m_cquot _ _ _ _ | exact m_ccorr _ _ _ _ _ | exact m_cproduct _ _ _ _ | exact m_cquo _ _ | exact m_cmul _ _ | exact m_csub _ _ | exact m_cadd _ _ | exact m_cconv _ _ _ | exact m_ccmp _ _ _ _ | exact m_carith _ _ _ _ | exact m_floatToInt _ _ _ | exact m_floatToFloat _ _ _ | exact m_unary _ _ | exact m_stringOp _ _ _ | exact m_floatCmp _ _ _ _ | exact m_floatArith _ _ _ _ | exact m_intCmp _ _ _ | exact m_shift _ _ _ _ _ | exact m_intBits _ _ _ _ | exact m_intDiv _ _ _ _ | exact m_intArith _ _ _ _ | exact m_typeAssert _ _ _ _ | exact m_makeFunc _ _ _ | exact m_makeInterface _ _ | exact m_field _ _ _ | exact m_index _ _ _ | exact m_extract _ _ | exact m_makeSlice hR _ _ _ | exact m_buildSlice _ _ | exact m_build _ | exact m_box _ _ | exact m_sliceAt _ _ _ _ _ | exact m_slice _ _ _ _ _ | exact m_sliceBounds _ _ _ _ _ _ | exact m_sliceBound _ _ _ | exact m_indexAt _ _ _ | exact m_fieldAt _ _ _ | exact m_storeAt _ _ _ | exact m_loadAt _ _ | exact m_sureAddr _ | exact m_alloc _ _ _ | exact m_loadBytes _ _ _ | exact m_variablesAt _ _ _ | exact m_fieldPlace _ _ | exact m_partAt _ _ _ | exact m_byteOf _ | exact m_results _ _ | exact m_asAddr _ | exact m_asAgg _ | exact m_asString _ | exact m_asBool _ | exact m_asInt _ | exact m_asIntOf _ | exact m_boundsPanic _ _ _ _ | exact m_runtimePanic _ | exact m_part _ _ _ | exact m_elemOf _ | exact m_newVar _ _ | exact m_newRow _ _ | exact m_storeVar _ _ _ | exact m_loadVar _ _ | exact m_storeCells _ _ _ | exact m_loadCells _ _ | exact m_isAgg _ | exact m_sizeOf _ | exact m_zeroValue _ | exact m_typeStr _ | exact m_globalAddr _ | exact m_cutType _ | exact m_underlying _ | exact m_typeInfo _ | exact m_samePointer _ _ | exact m_sameAddr _ _ | exact m_mayBeOne _ _ | exact m_stringish _ | exact m_markStringish _ | exact m_noView _ | exact m_backFromNumber _ | exact m_behindNumber _ | exact m_asNumber _ _ | exact m_cellsIn _ | exact m_numberAt _ | exact m_viewAt _ | exact m_goPanic _ | exact m_unsupported _ | exact m_stuck _ | exact m_program | exact m_choose _ | exact m_setObj _ _ | exact m_getObj _ | exact m_frozen _ | exact m_freeze _ _ | exact m_shape _ | exact m_newObj _ | exact m_store _ _ _ | exact m_load _ _ | exact m_halt _ | exact m_pure _)
    | with_reducible refine m_map ?_
    | with_reducible refine m_bind ?_ (fun _ => ?_)
    | with_reducible refine m_ite ?_ ?_
    | refine m_forA (fun _ _ => ?_) _ _
    | refine m_forL (fun _ _ => ?_) _ _
    | refine m_forR (fun _ _ => ?_) _ _
    | refine m_mapA (fun _ => ?_) _
    | refine m_foldL (fun _ _ => ?_) _ _
    | split
    | dsimp only)

theorem m_intToFloat (k : FloatKind) (n : Int) : M P ok (Conv.intToFloat k n) := by
  unfold Conv.intToFloat
  repeat' (first
    | with_reducible (first | assumption | exact m_intToInt _ _ | exact m_binOp _ _ _ _ | exact m_eqGuard _ _ _ _ _ _ | exact m_movedPointer _ _ _ | exact m_movedNumber _ _ _ | exact m_unsafeAdd _ _ _ | exact m_eqGuardIn _ _ _ _ | exact m_equal _ _ _ | exact m_equalIn _ _ _ _ | exact m_addrMod _ _ _ | exact m_addrCmp _ _ _ | exact m_addrSub _ _ _ | exact m_twoPlaces _ _ | exact m_complexOp _ _ _ _ _ _ | exact m_cquot _ _ _ _ | exact m_ccorr _ _ _ _ _ | exact m_cproduct _ _ _ _ | exact m_cquo _ _ | exact m_cmul _ _ | exact m_csub _ _ | exact m_cadd _ _ | exact m_cconv _ _ _ | exact m_ccmp _ _ _ _ | exact m_carith _ _ _ _ | exact m_floatToInt _ _ _ | exact m_floatToFloat _ _ _ | exact m_unary _ _ | exact m_stringOp _ _ _ | exact m_floatCmp _ _ _ _ | exact m_floatArith _ _ _ _ | exact m_intCmp _ _ _ | exact m_shift _ _ _ _ _ | exact m_intBits _ _ _ _ | exact m_intDiv _ _ _ _ | exact m_intArith _ _ _ _ | exact m_typeAssert _ _ _ _ | exact m_makeFunc _ _ _ | exact m_makeInterface _ _ | exact m_field _ _ _ | exact m_index _ _ _ | exact m_extract _ _ | exact m_makeSlice hR _ _ _ | exact m_buildSlice _ _ | exact m_build _ | exact m_box _ _ | exact m_sliceAt _ _ _ _ _ | exact m_slice _ _ _ _ _ | exact m_sliceBounds _ _ _ _ _ _ | exact m_sliceBound _ _ _ | exact m_indexAt _ _ _ | exact m_fieldAt _ _ _ | exact m_storeAt _ _ _ | exact m_loadAt _ _ | exact m_sureAddr _ | exact m_alloc _ _ _ | exact m_loadBytes _ _ _ | exact m_variablesAt _ _ _ | exact m_fieldPlace _ _ | exact m_partAt _ _ _ | exact m_byteOf _ | exact m_results _ _ | exact m_asAddr _ | exact m_asAgg _ | exact m_asString _ | exact m_asBool _ | exact m_asInt _ | exact m_asIntOf _ | exact m_boundsPanic _ _ _ _ | exact m_runtimePanic _ | exact m_part _ _ _ | exact m_elemOf _ | exact m_newVar _ _ | exact m_newRow _ _ | exact m_storeVar _ _ _ | exact m_loadVar _ _ | exact m_storeCells _ _ _ | exact m_loadCells _ _ | exact m_isAgg _ | exact m_sizeOf _ | exact m_zeroValue _ | exact m_typeStr _ | exact m_globalAddr _ | exact m_cutType _ | exact m_underlying _ | exact m_typeInfo _ | exact m_samePointer _ _ | exact m_sameAddr _ _ | exact m_mayBeOne _ _ | exact m_stringish _ | exact m_markStringish _ | exact m_noView _ | exact m_backFromNumber _ | exact m_behindNumber _ | exact m_asNumber _ _ | exact m_cellsIn _ | exact m_numberAt _ | exact m_viewAt _ | exact m_goPanic _ | exact m_unsupported _ | exact m_stuck _ | exact m_program | exact m_choose _ | exact m_setObj _ _ | exact m_getObj _ | exact m_frozen _ | exact m_freeze _ _ | exact m_shape _ | exact m_newObj _ | exact m_store _ _ _ | exact m_load _ _ | exact m_halt _ | exact m_pure _)
    | with_reducible refine m_map ?_
    | with_reducible refine m_bind ?_ (fun _ => ?_)
    | with_reducible refine m_ite ?_ ?_
    | refine m_forA (fun _ _ => ?_) _ _
    | refine m_forL (fun _ _ => ?_) _ _
    | refine m_forR (fun _ _ => ?_) _ _
    | refine m_mapA (fun _ => ?_) _
    | refine m_foldL (fun _ _ => ?_) _ _
    | split
    | dsimp only)

theorem m_complexToComplex (s : FloatKind) (a b : Nat) (d : FloatKind) : M P ok (Conv.complexToComplex s a b d) := by
  unfold Conv.complexToComplex
  repeat' (first
    | with_reducible (first | assumption | exact m_intToFloat _ _ | exact m_intToInt _ _ | exact m_binOp _ _ _ _ | exact m_eqGuard _ _ _ _ _ _ | exact m_movedPointer _ _ _ | exact m_movedNumber _ _ _ | exact m_unsafeAdd _ _ _ | exact m_eqGuardIn _ _ _ _ | exact m_equal _ _ _ | exact m_equalIn _ _ _ _ | exact m_addrMod _ _ _ | exact m_addrCmp _ _ _ | exact m_addrSub _ _ _ | exact m_twoPlaces _ _ | exact m_complexOp _ _ _ _ _ _ | exact m_cquot _ _ _ _ | exact m_ccorr _ _ _ _ _ | exact m_cproduct _ _ _ _ | exact m_cquo _ _ | exact m_cmul _ _ | exact m_csub _ _ | exact m_cadd _ _ | exact m_cconv _ _ _ | exact m_ccmp _ _ _ _ | exact m_carith _ _ _ _ | exact m_floatToInt _ _ _ | exact m_floatToFloat _ _ _ | exact m_unary _ _ | exact m_stringOp _ _ _ | exact m_floatCmp _ _ _ _ | exact m_floatArith _ _ _ _ | exact m_intCmp _ _ _ | exact m_shift _ _ _ _ _ | exact m_intBits _ _ _ _ | exact m_intDiv _ _ _ _ | exact m_intArith _ _ _ _ | exact m_typeAssert _ _ _ _ | exact m_makeFunc _ _ _ | exact m_makeInterface _ _ | exact m_field _ _ _ | exact m_index _ _ _ | exact m_extract _ _ | exact m_makeSlice hR _ _ _ | exact m_buildSlice _ _ | exact m_build _ | exact m_box _ _ | exact m_sliceAt _ _ _ _ _ | exact m_slice _ _ _ _ _ | exact m_sliceBounds _ _ _ _ _ _ | exact m_sliceBound _ _ _ | exact m_indexAt _ _ _ | exact m_fieldAt _ _ _ | exact m_storeAt _ _ _ | exact m_loadAt _ _ | exact m_sureAddr _ | exact m_alloc _ _ _ | exact m_loadBytes _ _ _ | exact m_variablesAt _ _ _ | exact m_fieldPlace _ _ | exact m_partAt _ _ _ | exact m_byteOf _ | exact m_results _ _ | exact m_asAddr _ | exact m_asAgg _ | exact m_asString _ | exact m_asBool _ | exact m_asInt _ | exact m_asIntOf _ | exact m_boundsPanic _ _ _ _ | exact m_runtimePanic _ | exact m_part _ _ _ | exact m_elemOf _ | exact m_newVar _ _ | exact m_newRow _ _ | exact m_storeVar _ _ _ | exact m_loadVar _ _ | exact m_storeCells _ _ _ | exact m_loadCells _ _ | exact m_isAgg _ | exact m_sizeOf _ | exact m_zeroValue _ | exact m_typeStr _ | exact m_globalAddr _ | exact m_cutType _ | exact m_underlying _ | exact m_typeInfo _ | exact m_samePointer _ _ | exact m_sameAddr _ _ | exact m_mayBeOne _ _ | exact m_stringish _ | exact m_markStringish _ | exact m_noView _ | exact m_backFromNumber _ | exact m_behindNumber _ | exact m_asNumber _ _ | exact m_cellsIn _ | exact m_numberAt _ | exact m_viewAt _ | exact m_goPanic _ | exact m_unsupported _ | exact m_stuck _ | exact m_program | exact m_choose _ | exact m_setObj _ _ | exact m_getObj _ | exact m_frozen _ | exact m_freeze _ _ | exact m_shape _ | exact m_newObj _ | exact m_store _ _ _ | exact m_load _ _ | exact m_halt _ | exact m_pure _)
    | with_reducible refine m_map ?_
    | with_reducible refine m_bind ?_ (fun _ => ?_)
    | with_reducible refine m_ite ?_ ?_
    | refine m_forA (fun _ _ => ?_) _ _
    | refine m_forL (fun _ _ => ?_) _ _
    | refine m_forR (fun _ _ => ?_) _ _
    | refine m_mapA (fun _ => ?_) _
    | refine m_foldL (fun _ _ => ?_) _ _
    | split
    | dsimp only)

theorem m_intToString (n : Int) : M P ok (Conv.intToString n) := by
  unfold Conv.intToString
  repeat' (first
    | with_reducible (first | assumption | exact m_complexToComplex _ _ _ _ | exact m_intToFloat _ _ | exact m_intToInt _ _ | exact m_binOp _ _ _ _ | exact m_eqGuard _ _ _ _ _ _ | exact m_movedPointer _ _ _ | exact m_movedNumber _ _ _ | exact m_unsafeAdd _ _ _ | exact m_eqGuardIn _ _ _ _ | exact m_equal _ _ _ | exact m_equalIn _ _ _ _ | exact m_addrMod _ _ _ | exact m_addrCmp _ _ _ | exact m_addrSub _ _ _ | exact m_twoPlaces _ _ | exact m_complexOp _ _ _ _ _ _ | exact m_cquot _ _ _ _ | exact m_ccorr _ _ _ _ _ | exact m_cproduct _ _ _ _ | exact m_cquo _ _ | exact m_cmul _ _ | exact m_csub _ _ | exact m_cadd _ _ | exact m_cconv _ _ _ | exact m_ccmp _ _ _ _ | exact m_carith _ _ _ _ | exact m_floatToInt _ _ _ | exact m_floatToFloat _ _ _ | exact m_unary _ _ | exact m_stringOp _ _ _ | exact m_floatCmp _ _ _ _ | exact m_floatArith _ _ _ _ | exact m_intCmp _ _ _ | exact m_shift _ _ _ _ _ | exact m_intBits _ _ _ _ | exact m_intDiv _ _ _ _ | exact m_intArith _ _ _ _ | exact m_typeAssert _ _ _ _ | exact m_makeFunc _ _ _ | exact m_makeInterface _ _ | exact m_field _ _ _ | exact m_index _ _ _ | exact m_extract _ _ | exact m_makeSlice hR _ _ _ | exact m_buildSlice _ _ | exact m_build _ | exact m_box _ _ | exact m_sliceAt _ _ _ _ _ | exact m_slice _ _ _ _ _ | exact m_sliceBounds _ _ _ _ _ _ | exact m_sliceBound _ _ _ | exact m_indexAt _ _ _ | exact m_fieldAt _ _ _ | exact m_storeAt _ _ _ | exact m_loadAt _ _ | exact m_sureAddr _ | exact m_alloc _ _ _ | exact m_loadBytes _ _ _ | exact m_variablesAt _ _ _ | exact m_fieldPlace _ _ | exact m_partAt _ _ _ | exact m_byteOf _ | exact m_results _ _ | exact m_asAddr _ | exact m_asAgg _ | exact m_asString _ | exact m_asBool _ | exact m_asInt _ | exact m_asIntOf _ | exact m_boundsPanic _ _ _ _ | exact m_runtimePanic _ | exact m_part _ _ _ | exact m_elemOf _ | exact m_newVar _ _ | exact m_newRow _ _ | exact m_storeVar _ _ _ | exact m_loadVar _ _ | exact m_storeCells _ _ _ | exact m_loadCells _ _ | exact m_isAgg _ | exact m_sizeOf _ | exact m_zeroValue _ | exact m_typeStr _ | exact m_globalAddr _ | exact m_cutType _ | exact m_underlying _ | exact m_typeInfo _ | exact m_samePointer _ _ | exact m_sameAddr _ _ | exact m_mayBeOne _ _ | exact m_stringish _ | exact m_markStringish _ | exact m_noView _ | exact m_backFromNumber _ | exact m_behindNumber _ | exact m_asNumber _ _ | exact m_cellsIn _ | exact m_numberAt _ | exact m_viewAt _ | exact m_goPanic _ | exact m_unsupported _ | exact m_stuck _ | exact m_program | exact m_choose _ | exact m_setObj _ _ | exact m_getObj _ | exact m_frozen _ | exact m_freeze _ _ | exact m_shape _ | exact m_newObj _ | exact m_store _ _ _ | exact m_load _ _ | exact m_halt _ | exact m_pure _)
    | with_reducible refine m_map ?_
    | with_reducible refine m_bind ?_ (fun _ => ?_)
    | with_reducible refine m_ite ?_ ?_
    | refine m_forA (fun _ _ => ?_) _ _
    | refine m_forL (fun _ _ => ?_) _ _
    | refine m_forR (fun _ _ => ?_) _ _
    | refine m_mapA (fun _ => ?_) _
    | refine m_foldL (fun _ _ => ?_) _ _
    | split
    | dsimp only)

theorem m_stringToBytes (t : TypeId) (s : ByteArray) : M P ok (Conv.stringToBytes t s) := by
  unfold Conv.stringToBytes
  repeat' (first
    | with_reducible (first | assumption | exact m_intToString _ | exact m_complexToComplex _ _ _ _ | exact m_intToFloat _ _ | exact m_intToInt _ _ | exact m_binOp _ _ _ _ | exact m_eqGuard _ _ _ _ _ _ | exact m_movedPointer _ _ _ | exact m_movedNumber _ _ _ | exact m_unsafeAdd _ _ _ | exact m_eqGuardIn _ _ _ _ | exact m_equal _ _ _ | exact m_equalIn _ _ _ _ | exact m_addrMod _ _ _ | exact m_addrCmp _ _ _ | exact m_addrSub _ _ _ | exact m_twoPlaces _ _ | exact m_complexOp _ _ _ _ _ _ | exact m_cquot _ _ _ _ | exact m_ccorr _ _ _ _ _ | exact m_cproduct _ _ _ _ | exact m_cquo _ _ | exact m_cmul _ _ | exact m_csub _ _ | exact m_cadd _ _ | exact m_cconv _ _ _ | exact m_ccmp _ _ _ _ | exact m_carith _ _ _ _ | exact m_floatToInt _ _ _ | exact m_floatToFloat _ _ _ | exact m_unary _ _ | exact m_stringOp _ _ _ | exact m_floatCmp _ _ _ _ | exact m_floatArith _ _ _ _ | exact m_intCmp _ _ _ | exact m_shift _ _ _ _ _ | exact m_intBits _ _ _ _ | exact m_intDiv _ _ _ _ | exact m_intArith _ _ _ _ | exact m_typeAssert _ _ _ _ | exact m_makeFunc _ _ _ | exact m_makeInterface _ _ | exact m_field _ _ _ | exact m_index _ _ _ | exact m_extract _ _ | exact m_makeSlice hR _ _ _ | exact m_buildSlice _ _ | exact m_build _ | exact m_box _ _ | exact m_sliceAt _ _ _ _ _ | exact m_slice _ _ _ _ _ | exact m_sliceBounds _ _ _ _ _ _ | exact m_sliceBound _ _ _ | exact m_indexAt _ _ _ | exact m_fieldAt _ _ _ | exact m_storeAt _ _ _ | exact m_loadAt _ _ | exact m_sureAddr _ | exact m_alloc _ _ _ | exact m_loadBytes _ _ _ | exact m_variablesAt _ _ _ | exact m_fieldPlace _ _ | exact m_partAt _ _ _ | exact m_byteOf _ | exact m_results _ _ | exact m_asAddr _ | exact m_asAgg _ | exact m_asString _ | exact m_asBool _ | exact m_asInt _ | exact m_asIntOf _ | exact m_boundsPanic _ _ _ _ | exact m_runtimePanic _ | exact m_part _ _ _ | exact m_elemOf _ | exact m_newVar _ _ | exact m_newRow _ _ | exact m_storeVar _ _ _ | exact m_loadVar _ _ | exact m_storeCells _ _ _ | exact m_loadCells _ _ | exact m_isAgg _ | exact m_sizeOf _ | exact m_zeroValue _ | exact m_typeStr _ | exact m_globalAddr _ | exact m_cutType _ | exact m_underlying _ | exact m_typeInfo _ | exact m_samePointer _ _ | exact m_sameAddr _ _ | exact m_mayBeOne _ _ | exact m_stringish _ | exact m_markStringish _ | exact m_noView _ | exact m_backFromNumber _ | exact m_behindNumber _ | exact m_asNumber _ _ | exact m_cellsIn _ | exact m_numberAt _ | exact m_viewAt _ | exact m_goPanic _ | exact m_unsupported _ | exact m_stuck _ | exact m_program | exact m_choose _ | exact m_setObj _ _ | exact m_getObj _ | exact m_frozen _ | exact m_freeze _ _ | exact m_shape _ | exact m_newObj _ | exact m_store _ _ _ | exact m_load _ _ | exact m_halt _ | exact m_pure _)
    | with_reducible refine m_map ?_
    | with_reducible refine m_bind ?_ (fun _ => ?_)
    | with_reducible refine m_ite ?_ ?_
    | refine m_forA (fun _ _ => ?_) _ _
    | refine m_forL (fun _ _ => ?_) _ _
    | refine m_forR (fun _ _ => ?_) _ _
    | refine m_mapA (fun _ => ?_) _
    | refine m_foldL (fun _ _ => ?_) _ _
    | split
    | dsimp only)

theorem m_stringToRunes (t : TypeId) (s : ByteArray) : M P ok (Conv.stringToRunes t s) := by
  unfold Conv.stringToRunes
  repeat' (first
    | with_reducible (first | assumption | exact m_stringToBytes _ _ | exact m_intToString _ | exact m_complexToComplex _ _ _ _ | exact m_intToFloat _ _ | exact m_intToInt _ _ | exact m_binOp _ _ _ _ | exact m_eqGuard _ _ _ _ _ _ | exact m_movedPointer _ _ _ | exact m_movedNumber _ _ _ | exact m_unsafeAdd _ _ _ | exact m_eqGuardIn _ _ _ _ | exact m_equal _ _ _ | exact m_equalIn _ _ _ _ | exact m_addrMod _ _ _ | exact m_addrCmp _ _ _ | exact m_addrSub _ _ _ | exact m_twoPlaces _ _ | exact m_complexOp _ _ _ _ _ _ | exact m_cquot _ _ _ _ | exact m_ccorr _ _ _ _ _ | exact m_cproduct _ _ _ _ | exact m_cquo _ _ | exact m_cmul _ _ | exact m_csub _ _ | exact m_cadd _ _ | exact m_cconv _ _ _ | exact m_ccmp _ _ _ _ | exact m_carith _ _ _ _ | exact m_floatToInt _ _ _ | exact m_floatToFloat _ _ _ | exact m_unary _ _ | exact m_stringOp _ _ _ | exact m_floatCmp _ _ _ _ | exact m_floatArith _ _ _ _ | exact m_intCmp _ _ _ | exact m_shift _ _ _ _ _ | exact m_intBits _ _ _ _ | exact m_intDiv _ _ _ _ | exact m_intArith _ _ _ _ | exact m_typeAssert _ _ _ _ | exact m_makeFunc _ _ _ | exact m_makeInterface _ _ | exact m_field _ _ _ | exact m_index _ _ _ | exact m_extract _ _ | exact m_makeSlice hR _ _ _ | exact m_buildSlice _ _ | exact m_build _ | exact m_box _ _ | exact m_sliceAt _ _ _ _ _ | exact m_slice _ _ _ _ _ | exact m_sliceBounds _ _ _ _ _ _ | exact m_sliceBound _ _ _ | exact m_indexAt _ _ _ | exact m_fieldAt _ _ _ | exact m_storeAt _ _ _ | exact m_loadAt _ _ | exact m_sureAddr _ | exact m_alloc _ _ _ | exact m_loadBytes _ _ _ | exact m_variablesAt _ _ _ | exact m_fieldPlace _ _ | exact m_partAt _ _ _ | exact m_byteOf _ | exact m_results _ _ | exact m_asAddr _ | exact m_asAgg _ | exact m_asString _ | exact m_asBool _ | exact m_asInt _ | exact m_asIntOf _ | exact m_boundsPanic _ _ _ _ | exact m_runtimePanic _ | exact m_part _ _ _ | exact m_elemOf _ | exact m_newVar _ _ | exact m_newRow _ _ | exact m_storeVar _ _ _ | exact m_loadVar _ _ | exact m_storeCells _ _ _ | exact m_loadCells _ _ | exact m_isAgg _ | exact m_sizeOf _ | exact m_zeroValue _ | exact m_typeStr _ | exact m_globalAddr _ | exact m_cutType _ | exact m_underlying _ | exact m_typeInfo _ | exact m_samePointer _ _ | exact m_sameAddr _ _ | exact m_mayBeOne _ _ | exact m_stringish _ | exact m_markStringish _ | exact m_noView _ | exact m_backFromNumber _ | exact m_behindNumber _ | exact m_asNumber _ _ | exact m_cellsIn _ | exact m_numberAt _ | exact m_viewAt _ | exact m_goPanic _ | exact m_unsupported _ | exact m_stuck _ | exact m_program | exact m_choose _ | exact m_setObj _ _ | exact m_getObj _ | exact m_frozen _ | exact m_freeze _ _ | exact m_shape _ | exact m_newObj _ | exact m_store _ _ _ | exact m_load _ _ | exact m_halt _ | exact m_pure _)
    | with_reducible refine m_map ?_
    | with_reducible refine m_bind ?_ (fun _ => ?_)
    | with_reducible refine m_ite ?_ ?_
    | refine m_forA (fun _ _ => ?_) _ _
    | refine m_forL (fun _ _ => ?_) _ _
    | refine m_forR (fun _ _ => ?_) _ _
    | refine m_mapA (fun _ => ?_) _
    | refine m_foldL (fun _ _ => ?_) _ _
    | split
    | dsimp only)

theorem m_bytesToString (v : Value) : M P ok (Conv.bytesToString v) := by
  unfold Conv.bytesToString
  repeat' (first
    | with_reducible (first | assumption | exact m_stringToRunes _ _ | exact m_stringToBytes _ _ | exact m_intToString _ | exact m_complexToComplex _ _ _ _ | exact m_intToFloat _ _ | exact m_intToInt _ _ | exact m_binOp _ _ _ _ | exact m_eqGuard _ _ _ _ _ _ | exact m_movedPointer _ _ _ | exact m_movedNumber _ _ _ | exact m_unsafeAdd _ _ _ | exact m_eqGuardIn _ _ _ _ | exact m_equal _ _ _ | exact m_equalIn _ _ _ _ | exact m_addrMod _ _ _ | exact m_addrCmp _ _ _ | exact m_addrSub _ _ _ | exact m_twoPlaces _ _ | exact m_complexOp _ _ _ _ _ _ | exact m_cquot _ _ _ _ | exact m_ccorr _ _ _ _ _ | exact m_cproduct _ _ _ _ | exact m_cquo _ _ | exact m_cmul _ _ | exact m_csub _ _ | exact m_cadd _ _ | exact m_cconv _ _ _ | exact m_ccmp _ _ _ _ | exact m_carith _ _ _ _ | exact m_floatToInt _ _ _ | exact m_floatToFloat _ _ _ | exact m_unary _ _ | exact m_stringOp _ _ _ | exact m_floatCmp _ _ _ _ | exact m_floatArith _ _ _ _ | exact m_intCmp _ _ _ | exact m_shift _ _ _ _ _ | exact m_intBits _ _ _ _ | exact m_intDiv _ _ _ _ | exact m_intArith _ _ _ _ | exact m_typeAssert _ _ _ _ | exact m_makeFunc _ _ _ | exact m_makeInterface _ _ | exact m_field _ _ _ | exact m_index _ _ _ | exact m_extract _ _ | exact m_makeSlice hR _ _ _ | exact m_buildSlice _ _ | exact m_build _ | exact m_box _ _ | exact m_sliceAt _ _ _ _ _ | exact m_slice _ _ _ _ _ | exact m_sliceBounds _ _ _ _ _ _ | exact m_sliceBound _ _ _ | exact m_indexAt _ _ _ | exact m_fieldAt _ _ _ | exact m_storeAt _ _ _ | exact m_loadAt _ _ | exact m_sureAddr _ | exact m_alloc _ _ _ | exact m_loadBytes _ _ _ | exact m_variablesAt _ _ _ | exact m_fieldPlace _ _ | exact m_partAt _ _ _ | exact m_byteOf _ | exact m_results _ _ | exact m_asAddr _ | exact m_asAgg _ | exact m_asString _ | exact m_asBool _ | exact m_asInt _ | exact m_asIntOf _ | exact m_boundsPanic _ _ _ _ | exact m_runtimePanic _ | exact m_part _ _ _ | exact m_elemOf _ | exact m_newVar _ _ | exact m_newRow _ _ | exact m_storeVar _ _ _ | exact m_loadVar _ _ | exact m_storeCells _ _ _ | exact m_loadCells _ _ | exact m_isAgg _ | exact m_sizeOf _ | exact m_zeroValue _ | exact m_typeStr _ | exact m_globalAddr _ | exact m_cutType _ | exact m_underlying _ | exact m_typeInfo _ | exact m_samePointer _ _ | exact m_sameAddr _ _ | exact m_mayBeOne _ _ | exact m_stringish _ | exact m_markStringish _ | exact m_noView _ | exact m_backFromNumber _ | exact m_behindNumber _ | exact m_asNumber _ _ | exact m_cellsIn _ | exact m_numberAt _ | exact m_viewAt _ | exact m_goPanic _ | exact m_unsupported _ | exact m_stuck _ | exact m_program | exact m_choose _ | exact m_setObj _ _ | exact m_getObj _ | exact m_frozen _ | exact m_freeze _ _ | exact m_shape _ | exact m_newObj _ | exact m_store _ _ _ | exact m_load _ _ | exact m_halt _ | exact m_pure _)
    | with_reducible refine m_map ?_
    | with_reducible refine m_bind ?_ (fun _ => ?_)
    | with_reducible refine m_ite ?_ ?_
    | refine m_forA (fun _ _ => ?_) _ _
    | refine m_forL (fun _ _ => ?_) _ _
    | refine m_forR (fun _ _ => ?_) _ _
    | refine m_mapA (fun _ => ?_) _
    | refine m_foldL (fun _ _ => ?_) _ _
    | split
    | dsimp only)

theorem m_runesToString (v : Value) : M P ok (Conv.runesToString v) := by
  unfold Conv.runesToString
  repeat' (first
    | with_reducible (first | assumption | exact m_bytesToString _ | exact m_stringToRunes _ _ | exact m_stringToBytes _ _ | exact m_intToString _ | exact m_complexToComplex _ _ _ _ | exact m_intToFloat _ _ | exact m_intToInt _ _ | exact m_binOp _ _ _ _ | exact m_eqGuard _ _ _ _ _ _ | exact m_movedPointer _ _ _ | exact m_movedNumber _ _ _ | exact m_unsafeAdd _ _ _ | exact m_eqGuardIn _ _ _ _ | exact m_equal _ _ _ | exact m_equalIn _ _ _ _ | exact m_addrMod _ _ _ | exact m_addrCmp _ _ _ | exact m_addrSub _ _ _ | exact m_twoPlaces _ _ | exact m_complexOp _ _ _ _ _ _ | exact m_cquot _ _ _ _ | exact m_ccorr _ _ _ _ _ | exact m_cproduct _ _ _ _ | exact m_cquo _ _ | exact m_cmul _ _ | exact m_csub _ _ | exact m_cadd _ _ | exact m_cconv _ _ _ | exact m_ccmp _ _ _ _ | exact m_carith _ _ _ _ | exact m_floatToInt _ _ _ | exact m_floatToFloat _ _ _ | exact m_unary _ _ | exact m_stringOp _ _ _ | exact m_floatCmp _ _ _ _ | exact m_floatArith _ _ _ _ | exact m_intCmp _ _ _ | exact m_shift _ _ _ _ _ | exact m_intBits _ _ _ _ | exact m_intDiv _ _ _ _ | exact m_intArith _ _ _ _ | exact m_typeAssert _ _ _ _ | exact m_makeFunc _ _ _ | exact m_makeInterface _ _ | exact m_field _ _ _ | exact m_index _ _ _ | exact m_extract _ _ | exact m_makeSlice hR _ _ _ | exact m_buildSlice _ _ | exact m_build _ | exact m_box _ _ | exact m_sliceAt _ _ _ _ _ | exact m_slice _ _ _ _ _ | exact m_sliceBounds _ _ _ _ _ _ | exact m_sliceBound _ _ _ | exact m_indexAt _ _ _ | exact m_fieldAt _ _ _ | exact m_storeAt _ _ _ | exact m_loadAt _ _ | exact m_sureAddr _ | exact m_alloc _ _ _ | exact m_loadBytes _ _ _ | exact m_variablesAt _ _ _ | exact m_fieldPlace _ _ | exact m_partAt _ _ _ | exact m_byteOf _ | exact m_results _ _ | exact m_asAddr _ | exact m_asAgg _ | exact m_asString _ | exact m_asBool _ | exact m_asInt _ | exact m_asIntOf _ | exact m_boundsPanic _ _ _ _ | exact m_runtimePanic _ | exact m_part _ _ _ | exact m_elemOf _ | exact m_newVar _ _ | exact m_newRow _ _ | exact m_storeVar _ _ _ | exact m_loadVar _ _ | exact m_storeCells _ _ _ | exact m_loadCells _ _ | exact m_isAgg _ | exact m_sizeOf _ | exact m_zeroValue _ | exact m_typeStr _ | exact m_globalAddr _ | exact m_cutType _ | exact m_underlying _ | exact m_typeInfo _ | exact m_samePointer _ _ | exact m_sameAddr _ _ | exact m_mayBeOne _ _ | exact m_stringish _ | exact m_markStringish _ | exact m_noView _ | exact m_backFromNumber _ | exact m_behindNumber _ | exact m_asNumber _ _ | exact m_cellsIn _ | exact m_numberAt _ | exact m_viewAt _ | exact m_goPanic _ | exact m_unsupported _ | exact m_stuck _ | exact m_program | exact m_choose _ | exact m_setObj _ _ | exact m_getObj _ | exact m_frozen _ | exact m_freeze _ _ | exact m_shape _ | exact m_newObj _ | exact m_store _ _ _ | exact m_load _ _ | exact m_halt _ | exact m_pure _)
    | with_reducible refine m_map ?_
    | with_reducible refine m_bind ?_ (fun _ => ?_)
    | with_reducible refine m_ite ?_ ?_
    | refine m_forA (fun _ _ => ?_) _ _
    | refine m_forL (fun _ _ => ?_) _ _
    | refine m_forR (fun _ _ => ?_) _ _
    | refine m_mapA (fun _ => ?_) _
    | refine m_foldL (fun _ _ => ?_) _ _
    | split
    | dsimp only)

theorem m_seenAt (a : Addr) : M P ok (Conv.seenAt a) := by
  unfold Conv.seenAt
  repeat' (first
    | with_reducible (first | assumption | exact m_runesToString _ | exact m_bytesToString _ | exact m_stringToRunes _ _ | exact m_stringToBytes _ _ | exact m_intToString _ | exact m_complexToComplex _ _ _ _ | exact m_intToFloat _ _ | exact m_intToInt _ _ | exact m_binOp _ _ _ _ | exact m_eqGuard _ _ _ _ _ _ | exact m_movedPointer _ _ _ | exact m_movedNumber _ _ _ | exact m_unsafeAdd _ _ _ | exact m_eqGuardIn _ _ _ _ | exact m_equal _ _ _ | exact m_equalIn _ _ _ _ | exact m_addrMod _ _ _ | exact m_addrCmp _ _ _ | exact m_addrSub _ _ _ | exact m_twoPlaces _ _ | exact m_complexOp _ _ _ _ _ _ | exact m_cquot _ _ _ _ | exact m_ccorr _ _ _ _ _ | exact m_cproduct _ _ _ _ | exact m_cquo _ _ | exact m_cmul _ _ | exact m_csub _ _ | exact m_cadd _ _ | exact m_cconv _ _ _ | exact m_ccmp _ _ _ _ | exact m_carith _ _ _ _ | exact m_floatToInt _ _ _ | exact m_floatToFloat _ _ _ | exact m_unary _ _ | exact m_stringOp _ _ _ | exact m_floatCmp _ _ _ _ | exact m_floatArith _ _ _ _ | exact m_intCmp _ _ _ | exact m_shift _ _ _ _ _ | exact m_intBits _ _ _ _ | exact m_intDiv _ _ _ _ | exact m_intArith _ _ _ _ | exact m_typeAssert _ _ _ _ | exact m_makeFunc _ _ _ | exact m_makeInterface _ _ | exact m_field _ _ _ | exact m_index _ _ _ | exact m_extract _ _ | exact m_makeSlice hR _ _ _ | exact m_buildSlice _ _ | exact m_build _ | exact m_box _ _ | exact m_sliceAt _ _ _ _ _ | exact m_slice _ _ _ _ _ | exact m_sliceBounds _ _ _ _ _ _ | exact m_sliceBound _ _ _ | exact m_indexAt _ _ _ | exact m_fieldAt _ _ _ | exact m_storeAt _ _ _ | exact m_loadAt _ _ | exact m_sureAddr _ | exact m_alloc _ _ _ | exact m_loadBytes _ _ _ | exact m_variablesAt _ _ _ | exact m_fieldPlace _ _ | exact m_partAt _ _ _ | exact m_byteOf _ | exact m_results _ _ | exact m_asAddr _ | exact m_asAgg _ | exact m_asString _ | exact m_asBool _ | exact m_asInt _ | exact m_asIntOf _ | exact m_boundsPanic _ _ _ _ | exact m_runtimePanic _ | exact m_part _ _ _ | exact m_elemOf _ | exact m_newVar _ _ | exact m_newRow _ _ | exact m_storeVar _ _ _ | exact m_loadVar _ _ | exact m_storeCells _ _ _ | exact m_loadCells _ _ | exact m_isAgg _ | exact m_sizeOf _ | exact m_zeroValue _ | exact m_typeStr _ | exact m_globalAddr _ | exact m_cutType _ | exact m_underlying _ | exact m_typeInfo _ | exact m_samePointer _ _ | exact m_sameAddr _ _ | exact m_mayBeOne _ _ | exact m_stringish _ | exact m_markStringish _ | exact m_noView _ | exact m_backFromNumber _ | exact m_behindNumber _ | exact m_asNumber _ _ | exact m_cellsIn _ | exact m_numberAt _ | exact m_viewAt _ | exact m_goPanic _ | exact m_unsupported _ | exact m_stuck _ | exact m_program | exact m_choose _ | exact m_setObj _ _ | exact m_getObj _ | exact m_frozen _ | exact m_freeze _ _ | exact m_shape _ | exact m_newObj _ | exact m_store _ _ _ | exact m_load _ _ | exact m_halt _ | exact m_pure _)
    | with_reducible refine m_map ?_
    | with_reducible refine m_bind ?_ (fun _ => ?_)
    | with_reducible refine m_ite ?_ ?_
    | refine m_forA (fun _ _ => ?_) _ _
    | refine m_forL (fun _ _ => ?_) _ _
    | refine m_forR (fun _ _ => ?_) _ _
    | refine m_mapA (fun _ => ?_) _
    | refine m_foldL (fun _ _ => ?_) _ _
    | split
    | dsimp only)

theorem m_unsafePointer (s d : TypeId) (v : Value) : M P ok (Conv.unsafePointer s d v) := by
  unfold Conv.unsafePointer
  repeat' (first
    | with_reducible (first | assumption | exact m_seenAt _ | exact m_runesToString _ | exact m_bytesToString _ | exact m_stringToRunes _ _ | exact m_stringToBytes _ _ | exact m_intToString _ | exact m_complexToComplex _ _ _ _ | exact m_intToFloat _ _ | exact m_intToInt _ _ | exact m_binOp _ _ _ _ | exact m_eqGuard _ _ _ _ _ _ | exact m_movedPointer _ _ _ | exact m_movedNumber _ _ _ | exact m_unsafeAdd _ _ _ | exact m_eqGuardIn _ _ _ _ | exact m_equal _ _ _ | exact m_equalIn _ _ _ _ | exact m_addrMod _ _ _ | exact m_addrCmp _ _ _ | exact m_addrSub _ _ _ | exact m_twoPlaces _ _ | exact m_complexOp _ _ _ _ _ _ | exact m_cquot _ _ _ _ | exact m_ccorr _ _ _ _ _ | exact m_cproduct _ _ _ _ | exact m_cquo _ _ | exact m_cmul _ _ | exact m_csub _ _ | exact m_cadd _ _ | exact m_cconv _ _ _ | exact m_ccmp _ _ _ _ | exact m_carith _ _ _ _ | exact m_floatToInt _ _ _ | exact m_floatToFloat _ _ _ | exact m_unary _ _ | exact m_stringOp _ _ _ | exact m_floatCmp _ _ _ _ | exact m_floatArith _ _ _ _ | exact m_intCmp _ _ _ | exact m_shift _ _ _ _ _ | exact m_intBits _ _ _ _ | exact m_intDiv _ _ _ _ | exact m_intArith _ _ _ _ | exact m_typeAssert _ _ _ _ | exact m_makeFunc _ _ _ | exact m_makeInterface _ _ | exact m_field _ _ _ | exact m_index _ _ _ | exact m_extract _ _ | exact m_makeSlice hR _ _ _ | exact m_buildSlice _ _ | exact m_build _ | exact m_box _ _ | exact m_sliceAt _ _ _ _ _ | exact m_slice _ _ _ _ _ | exact m_sliceBounds _ _ _ _ _ _ | exact m_sliceBound _ _ _ | exact m_indexAt _ _ _ | exact m_fieldAt _ _ _ | exact m_storeAt _ _ _ | exact m_loadAt _ _ | exact m_sureAddr _ | exact m_alloc _ _ _ | exact m_loadBytes _ _ _ | exact m_variablesAt _ _ _ | exact m_fieldPlace _ _ | exact m_partAt _ _ _ | exact m_byteOf _ | exact m_results _ _ | exact m_asAddr _ | exact m_asAgg _ | exact m_asString _ | exact m_asBool _ | exact m_asInt _ | exact m_asIntOf _ | exact m_boundsPanic _ _ _ _ | exact m_runtimePanic _ | exact m_part _ _ _ | exact m_elemOf _ | exact m_newVar _ _ | exact m_newRow _ _ | exact m_storeVar _ _ _ | exact m_loadVar _ _ | exact m_storeCells _ _ _ | exact m_loadCells _ _ | exact m_isAgg _ | exact m_sizeOf _ | exact m_zeroValue _ | exact m_typeStr _ | exact m_globalAddr _ | exact m_cutType _ | exact m_underlying _ | exact m_typeInfo _ | exact m_samePointer _ _ | exact m_sameAddr _ _ | exact m_mayBeOne _ _ | exact m_stringish _ | exact m_markStringish _ | exact m_noView _ | exact m_backFromNumber _ | exact m_behindNumber _ | exact m_asNumber _ _ | exact m_cellsIn _ | exact m_numberAt _ | exact m_viewAt _ | exact m_goPanic _ | exact m_unsupported _ | exact m_stuck _ | exact m_program | exact m_choose _ | exact m_setObj _ _ | exact m_getObj _ | exact m_frozen _ | exact m_freeze _ _ | exact m_shape _ | exact m_newObj _ | exact m_store _ _ _ | exact m_load _ _ | exact m_halt _ | exact m_pure _)
    | with_reducible refine m_map ?_
    | with_reducible refine m_bind ?_ (fun _ => ?_)
    | with_reducible refine m_ite ?_ ?_
    | refine m_forA (fun _ _ => ?_) _ _
    | refine m_forL (fun _ _ => ?_) _ _
    | refine m_forR (fun _ _ => ?_) _ _
    | refine m_mapA (fun _ => ?_) _
    | refine m_foldL (fun _ _ => ?_) _ _
    | split
    | dsimp only)

theorem m_convert (s d : TypeId) (v : Value) : M P ok (convert s d v) := by
  unfold convert
  repeat' (first
    | with_reducible (first | assumption | exact m_unsafePointer _ _ _ | exact m_seenAt _ | exact m_runesToString _ | exact m_bytesToString _ | exact m_stringToRunes _ _ | exact m_stringToBytes _ _ | exact m_intToString _ | exact m_complexToComplex _ _ _ _ | exact m_intToFloat _ _ | exact m_intToInt _ _ | exact m_binOp _ _ _ _ | exact m_eqGuard _ _ _ _ _ _ | exact m_movedPointer _ _ _ | exact m_movedNumber _ _ _ | exact m_unsafeAdd _ _ _ | exact m_eqGuardIn _ _ _ _ | exact m_equal _ _ _ | exact m_equalIn _ _ _ _ | exact m_addrMod _ _ _ | exact m_addrCmp _ _ _ | exact m_addrSub _ _ _ | exact m_twoPlaces _ _ | exact m_complexOp _ _ _ _ _ _ | exact m_cquot _ _ _ _ | exact m_ccorr _ _ _ _ _ | exact m_cproduct _ _ _ _ | exact m_cquo _ _ | exact m_cmul _ _ | exact m_csub _ _ | exact m_cadd _ _ | exact m_cconv _ _ _ | exact m_ccmp _ _ _ _ | exact m_carith _ _ _ _ | exact m_floatToInt _ _ _ | exact m_floatToFloat _ _ _ | exact m_unary _ _ | exact m_stringOp _ _ _ | exact m_floatCmp _ _ _ _ | exact m_floatArith _ _ _ _ | exact m_intCmp _ _ _ | exact m_shift _ _ _ _ _ | exact m_intBits _ _ _ _ | exact m_intDiv _ _ _ _ | exact m_intArith _ _ _ _ | exact m_typeAssert _ _ _ _ | exact m_makeFunc _ _ _ | exact m_makeInterface _ _ | exact m_field _ _ _ | exact m_index _ _ _ | exact m_extract _ _ | exact m_makeSlice hR _ _ _ | exact m_buildSlice _ _ | exact m_build _ | exact m_box _ _ | exact m_sliceAt _ _ _ _ _ | exact m_slice _ _ _ _ _ | exact m_sliceBounds _ _ _ _ _ _ | exact m_sliceBound _ _ _ | exact m_indexAt _ _ _ | exact m_fieldAt _ _ _ | exact m_storeAt _ _ _ | exact m_loadAt _ _ | exact m_sureAddr _ | exact m_alloc _ _ _ | exact m_loadBytes _ _ _ | exact m_variablesAt _ _ _ | exact m_fieldPlace _ _ | exact m_partAt _ _ _ | exact m_byteOf _ | exact m_results _ _ | exact m_asAddr _ | exact m_asAgg _ | exact m_asString _ | exact m_asBool _ | exact m_asInt _ | exact m_asIntOf _ | exact m_boundsPanic _ _ _ _ | exact m_runtimePanic _ | exact m_part _ _ _ | exact m_elemOf _ | exact m_newVar _ _ | exact m_newRow _ _ | exact m_storeVar _ _ _ | exact m_loadVar _ _ | exact m_storeCells _ _ _ | exact m_loadCells _ _ | exact m_isAgg _ | exact m_sizeOf _ | exact m_zeroValue _ | exact m_typeStr _ | exact m_globalAddr _ | exact m_cutType _ | exact m_underlying _ | exact m_typeInfo _ | exact m_samePointer _ _ | exact m_sameAddr _ _ | exact m_mayBeOne _ _ | exact m_stringish _ | exact m_markStringish _ | exact m_noView _ | exact m_backFromNumber _ | exact m_behindNumber _ | exact m_asNumber _ _ | exact m_cellsIn _ | exact m_numberAt _ | exact m_viewAt _ | exact m_goPanic _ | exact m_unsupported _ | exact m_stuck _ | exact m_program | exact m_choose _ | exact m_setObj _ _ | exact m_getObj _ | exact m_frozen _ | exact m_freeze _ _ | exact m_shape _ | exact m_newObj _ | exact m_store _ _ _ | exact m_load _ _ | exact m_halt _ | exact m_pure _)
    | with_reducible refine m_map ?_
    | with_reducible refine m_bind ?_ (fun _ => ?_)
    | with_reducible refine m_ite ?_ ?_
    | refine m_forA (fun _ _ => ?_) _ _
    | refine m_forL (fun _ _ => ?_) _ _
    | refine m_forR (fun _ _ => ?_) _ _
    | refine m_mapA (fun _ => ?_) _
    | refine m_foldL (fun _ _ => ?_) _ _
    | split
    | dsimp only)

theorem m_checkKey (b : Bool) : ∀ (n : Nat) (t : TypeId) (x : Value), M P ok (Instr.checkKey b n t x)
  | 0, _, _ => by unfold Instr.checkKey; trivial
  | n + 1, t, x => by
    unfold Instr.checkKey
    have ih := m_checkKey b n
    repeat' (first
      | with_reducible (first | assumption | exact ih _ _ | exact m_convert _ _ _ | exact m_unsafePointer _ _ _ | exact m_seenAt _ | exact m_runesToString _ | exact m_bytesToString _ | exact m_stringToRunes _ _ | exact m_stringToBytes _ _ | exact m_intToString _ | exact m_complexToComplex _ _ _ _ | exact m_intToFloat _ _ | exact m_intToInt _ _ | exact m_binOp _ _ _ _ | exact m_eqGuard _ _ _ _ _ _ | exact m_movedPointer _ _ _ | exact m_movedNumber _ _ _ | exact m_unsafeAdd _ _ _ | exact m_eqGuardIn _ _ _ _ | exact m_equal _ _ _ | exact m_equalIn _ _ _ _ | exact m_addrMod _ _ _ | exact m_addrCmp _ _ _ | exact m_addrSub _ _ _ | exact m_twoPlaces _ _ | exact m_complexOp _ _ _ _ _ _ | exact m_cquot _ _ _ _ | exact m_ccorr _ _ _ _ _ | exact m_cproduct _ _ _ _ | exact m_cquo _ _ | exact m_cmul _ _ | exact m_csub _ _ | exact m_cadd _ _ | exact m_cconv _ _ _ | exact m_ccmp _ _ _ _ | exact m_carith _ _ _ _ | exact m_floatToInt _ _ _ | exact m_floatToFloat _ _ _ | exact m_unary _ _ | exact m_stringOp _ _ _ | exact m_floatCmp _ _ _ _ | exact m_floatArith _ _ _ _ | exact m_intCmp _ _ _ | exact m_shift _ _ _ _ _ | exact m_intBits _ _ _ _ | exact m_intDiv _ _ _ _ | exact m_intArith _ _ _ _ | exact m_typeAssert _ _ _ _ | exact m_makeFunc _ _ _ | exact m_makeInterface _ _ | exact m_field _ _ _ | exact m_index _ _ _ | exact m_extract _ _ | exact m_makeSlice hR _ _ _ | exact m_buildSlice _ _ | exact m_build _ | exact m_box _ _ | exact m_sliceAt _ _ _ _ _ | exact m_slice _ _ _ _ _ | exact m_sliceBounds _ _ _ _ _ _ | exact m_sliceBound _ _ _ | exact m_indexAt _ _ _ | exact m_fieldAt _ _ _ | exact m_storeAt _ _ _ | exact m_loadAt _ _ | exact m_sureAddr _ | exact m_alloc _ _ _ | exact m_loadBytes _ _ _ | exact m_variablesAt _ _ _ | exact m_fieldPlace _ _ | exact m_partAt _ _ _ | exact m_byteOf _ | exact m_results _ _ | exact m_asAddr _ | exact m_asAgg _ | exact m_asString _ | exact m_asBool _ | exact m_asInt _ | exact m_asIntOf _ | exact m_boundsPanic _ _ _ _ | exact m_runtimePanic _ | exact m_part _ _ _ | exact m_elemOf _ | exact m_newVar _ _ | exact m_newRow _ _ | exact m_storeVar _ _ _ | exact m_loadVar _ _ | exact m_storeCells _ _ _ | exact m_loadCells _ _ | exact m_isAgg _ | exact m_sizeOf _ | exact m_zeroValue _ | exact m_typeStr _ | exact m_globalAddr _ | exact m_cutType _ | exact m_underlying _ | exact m_typeInfo _ | exact m_samePointer _ _ | exact m_sameAddr _ _ | exact m_mayBeOne _ _ | exact m_stringish _ | exact m_markStringish _ | exact m_noView _ | exact m_backFromNumber _ | exact m_behindNumber _ | exact m_asNumber _ _ | exact m_cellsIn _ | exact m_numberAt _ | exact m_viewAt _ | exact m_goPanic _ | exact m_unsupported _ | exact m_stuck _ | exact m_program | exact m_choose _ | exact m_setObj _ _ | exact m_getObj _ | exact m_frozen _ | exact m_freeze _ _ | exact m_shape _ | exact m_newObj _ | exact m_store _ _ _ | exact m_load _ _ | exact m_halt _ | exact m_pure _)
      | with_reducible refine m_map ?_
      | with_reducible refine m_bind ?_ (fun _ => ?_)
      | with_reducible refine m_ite ?_ ?_
      | refine m_forA (fun _ _ => ?_) _ _
      | refine m_forL (fun _ _ => ?_) _ _
      | refine m_forR (fun _ _ => ?_) _ _
      | refine m_mapA (fun _ => ?_) _
      | refine m_foldL (fun _ _ => ?_) _ _
      | split
      | dsimp only)

theorem m_findAsking (t : TypeId) (k : Value) : ∀ (l : List MapEntry) (i : Nat), M P ok (Instr.findAsking t k l i)
  | [], _ => by unfold Instr.findAsking; trivial
  | e :: l, i => by
    unfold Instr.findAsking
    have ih := m_findAsking t k l
    repeat' (first
      | with_reducible (first | assumption | exact ih _ | exact m_checkKey _ _ _ _ | exact m_convert _ _ _ | exact m_unsafePointer _ _ _ | exact m_seenAt _ | exact m_runesToString _ | exact m_bytesToString _ | exact m_stringToRunes _ _ | exact m_stringToBytes _ _ | exact m_intToString _ | exact m_complexToComplex _ _ _ _ | exact m_intToFloat _ _ | exact m_intToInt _ _ | exact m_binOp _ _ _ _ | exact m_eqGuard _ _ _ _ _ _ | exact m_movedPointer _ _ _ | exact m_movedNumber _ _ _ | exact m_unsafeAdd _ _ _ | exact m_eqGuardIn _ _ _ _ | exact m_equal _ _ _ | exact m_equalIn _ _ _ _ | exact m_addrMod _ _ _ | exact m_addrCmp _ _ _ | exact m_addrSub _ _ _ | exact m_twoPlaces _ _ | exact m_complexOp _ _ _ _ _ _ | exact m_cquot _ _ _ _ | exact m_ccorr _ _ _ _ _ | exact m_cproduct _ _ _ _ | exact m_cquo _ _ | exact m_cmul _ _ | exact m_csub _ _ | exact m_cadd _ _ | exact m_cconv _ _ _ | exact m_ccmp _ _ _ _ | exact m_carith _ _ _ _ | exact m_floatToInt _ _ _ | exact m_floatToFloat _ _ _ | exact m_unary _ _ | exact m_stringOp _ _ _ | exact m_floatCmp _ _ _ _ | exact m_floatArith _ _ _ _ | exact m_intCmp _ _ _ | exact m_shift _ _ _ _ _ | exact m_intBits _ _ _ _ | exact m_intDiv _ _ _ _ | exact m_intArith _ _ _ _ | exact m_typeAssert _ _ _ _ | exact m_makeFunc _ _ _ | exact m_makeInterface _ _ | exact m_field _ _ _ | exact m_index _ _ _ | exact m_extract _ _ | exact m_makeSlice hR _ _ _ | exact m_buildSlice _ _ | exact m_build _ | exact m_box _ _ | exact m_sliceAt _ _ _ _ _ | exact m_slice _ _ _ _ _ | exact m_sliceBounds _ _ _ _ _ _ | exact m_sliceBound _ _ _ | exact m_indexAt _ _ _ | exact m_fieldAt _ _ _ | exact m_storeAt _ _ _ | exact m_loadAt _ _ | exact m_sureAddr _ | exact m_alloc _ _ _ | exact m_loadBytes _ _ _ | exact m_variablesAt _ _ _ | exact m_fieldPlace _ _ | exact m_partAt _ _ _ | exact m_byteOf _ | exact m_results _ _ | exact m_asAddr _ | exact m_asAgg _ | exact m_asString _ | exact m_asBool _ | exact m_asInt _ | exact m_asIntOf _ | exact m_boundsPanic _ _ _ _ | exact m_runtimePanic _ | exact m_part _ _ _ | exact m_elemOf _ | exact m_newVar _ _ | exact m_newRow _ _ | exact m_storeVar _ _ _ | exact m_loadVar _ _ | exact m_storeCells _ _ _ | exact m_loadCells _ _ | exact m_isAgg _ | exact m_sizeOf _ | exact m_zeroValue _ | exact m_typeStr _ | exact m_globalAddr _ | exact m_cutType _ | exact m_underlying _ | exact m_typeInfo _ | exact m_samePointer _ _ | exact m_sameAddr _ _ | exact m_mayBeOne _ _ | exact m_stringish _ | exact m_markStringish _ | exact m_noView _ | exact m_backFromNumber _ | exact m_behindNumber _ | exact m_asNumber _ _ | exact m_cellsIn _ | exact m_numberAt _ | exact m_viewAt _ | exact m_goPanic _ | exact m_unsupported _ | exact m_stuck _ | exact m_program | exact m_choose _ | exact m_setObj _ _ | exact m_getObj _ | exact m_frozen _ | exact m_freeze _ _ | exact m_shape _ | exact m_newObj _ | exact m_store _ _ _ | exact m_load _ _ | exact m_halt _ | exact m_pure _)
      | with_reducible refine m_map ?_
      | with_reducible refine m_bind ?_ (fun _ => ?_)
      | with_reducible refine m_ite ?_ ?_
      | refine m_forA (fun _ _ => ?_) _ _
      | refine m_forL (fun _ _ => ?_) _ _
      | refine m_forR (fun _ _ => ?_) _ _
      | refine m_mapA (fun _ => ?_) _
      | refine m_foldL (fun _ _ => ?_) _ _
      | split
      | dsimp only)

theorem m_findKey (t : TypeId) (k : Value) (l : List MapEntry) : M P ok (Instr.findKey t k l) := by
  unfold Instr.findKey
  repeat' (first
    | with_reducible (first | assumption | exact m_findAsking _ _ _ _ | exact m_checkKey _ _ _ _ | exact m_convert _ _ _ | exact m_unsafePointer _ _ _ | exact m_seenAt _ | exact m_runesToString _ | exact m_bytesToString _ | exact m_stringToRunes _ _ | exact m_stringToBytes _ _ | exact m_intToString _ | exact m_complexToComplex _ _ _ _ | exact m_intToFloat _ _ | exact m_intToInt _ _ | exact m_binOp _ _ _ _ | exact m_eqGuard _ _ _ _ _ _ | exact m_movedPointer _ _ _ | exact m_movedNumber _ _ _ | exact m_unsafeAdd _ _ _ | exact m_eqGuardIn _ _ _ _ | exact m_equal _ _ _ | exact m_equalIn _ _ _ _ | exact m_addrMod _ _ _ | exact m_addrCmp _ _ _ | exact m_addrSub _ _ _ | exact m_twoPlaces _ _ | exact m_complexOp _ _ _ _ _ _ | exact m_cquot _ _ _ _ | exact m_ccorr _ _ _ _ _ | exact m_cproduct _ _ _ _ | exact m_cquo _ _ | exact m_cmul _ _ | exact m_csub _ _ | exact m_cadd _ _ | exact m_cconv _ _ _ | exact m_ccmp _ _ _ _ | exact m_carith _ _ _ _ | exact m_floatToInt _ _ _ | exact m_floatToFloat _ _ _ | exact m_unary _ _ | exact m_stringOp _ _ _ | exact m_floatCmp _ _ _ _ | exact m_floatArith _ _ _ _ | exact m_intCmp _ _ _ | exact m_shift _ _ _ _ _ | exact m_intBits _ _ _ _ | exact m_intDiv _ _ _ _ | exact m_intArith _ _ _ _ | exact m_typeAssert _ _ _ _ | exact m_makeFunc _ _ _ | exact m_makeInterface _ _ | exact m_field _ _ _ | exact m_index _ _ _ | exact m_extract _ _ | exact m_makeSlice hR _ _ _ | exact m_buildSlice _ _ | exact m_build _ | exact m_box _ _ | exact m_sliceAt _ _ _ _ _ | exact m_slice _ _ _ _ _ | exact m_sliceBounds _ _ _ _ _ _ | exact m_sliceBound _ _ _ | exact m_indexAt _ _ _ | exact m_fieldAt _ _ _ | exact m_storeAt _ _ _ | exact m_loadAt _ _ | exact m_sureAddr _ | exact m_alloc _ _ _ | exact m_loadBytes _ _ _ | exact m_variablesAt _ _ _ | exact m_fieldPlace _ _ | exact m_partAt _ _ _ | exact m_byteOf _ | exact m_results _ _ | exact m_asAddr _ | exact m_asAgg _ | exact m_asString _ | exact m_asBool _ | exact m_asInt _ | exact m_asIntOf _ | exact m_boundsPanic _ _ _ _ | exact m_runtimePanic _ | exact m_part _ _ _ | exact m_elemOf _ | exact m_newVar _ _ | exact m_newRow _ _ | exact m_storeVar _ _ _ | exact m_loadVar _ _ | exact m_storeCells _ _ _ | exact m_loadCells _ _ | exact m_isAgg _ | exact m_sizeOf _ | exact m_zeroValue _ | exact m_typeStr _ | exact m_globalAddr _ | exact m_cutType _ | exact m_underlying _ | exact m_typeInfo _ | exact m_samePointer _ _ | exact m_sameAddr _ _ | exact m_mayBeOne _ _ | exact m_stringish _ | exact m_markStringish _ | exact m_noView _ | exact m_backFromNumber _ | exact m_behindNumber _ | exact m_asNumber _ _ | exact m_cellsIn _ | exact m_numberAt _ | exact m_viewAt _ | exact m_goPanic _ | exact m_unsupported _ | exact m_stuck _ | exact m_program | exact m_choose _ | exact m_setObj _ _ | exact m_getObj _ | exact m_frozen _ | exact m_freeze _ _ | exact m_shape _ | exact m_newObj _ | exact m_store _ _ _ | exact m_load _ _ | exact m_halt _ | exact m_pure _)
    | with_reducible refine m_map ?_
    | with_reducible refine m_bind ?_ (fun _ => ?_)
    | with_reducible refine m_ite ?_ ?_
    | refine m_forA (fun _ _ => ?_) _ _
    | refine m_forL (fun _ _ => ?_) _ _
    | refine m_forR (fun _ _ => ?_) _ _
    | refine m_mapA (fun _ => ?_) _
    | refine m_foldL (fun _ _ => ?_) _ _
    | split
    | dsimp only)

theorem m_lookup (t : TypeId) (x i : Value) (b : Bool) : M P ok (Instr.lookup t x i b) := by
  unfold Instr.lookup
  repeat' (first
    | with_reducible (first | assumption | exact m_findKey _ _ _ | exact m_findAsking _ _ _ _ | exact m_checkKey _ _ _ _ | exact m_convert _ _ _ | exact m_unsafePointer _ _ _ | exact m_seenAt _ | exact m_runesToString _ | exact m_bytesToString _ | exact m_stringToRunes _ _ | exact m_stringToBytes _ _ | exact m_intToString _ | exact m_complexToComplex _ _ _ _ | exact m_intToFloat _ _ | exact m_intToInt _ _ | exact m_binOp _ _ _ _ | exact m_eqGuard _ _ _ _ _ _ | exact m_movedPointer _ _ _ | exact m_movedNumber _ _ _ | exact m_unsafeAdd _ _ _ | exact m_eqGuardIn _ _ _ _ | exact m_equal _ _ _ | exact m_equalIn _ _ _ _ | exact m_addrMod _ _ _ | exact m_addrCmp _ _ _ | exact m_addrSub _ _ _ | exact m_twoPlaces _ _ | exact m_complexOp _ _ _ _ _ _ | exact m_cquot _ _ _ _ | exact m_ccorr _ _ _ _ _ | exact m_cproduct _ _ _ _ | exact m_cquo _ _ | exact m_cmul _ _ | exact m_csub _ _ | exact m_cadd _ _ | exact m_cconv _ _ _ | exact m_ccmp _ _ _ _ | exact m_carith _ _ _ _ | exact m_floatToInt _ _ _ | exact m_floatToFloat _ _ _ | exact m_unary _ _ | exact m_stringOp _ _ _ | exact m_floatCmp _ _ _ _ | exact m_floatArith _ _ _ _ | exact m_intCmp _ _ _ | exact m_shift _ _ _ _ _ | exact m_intBits _ _ _ _ | exact m_intDiv _ _ _ _ | exact m_intArith _ _ _ _ | exact m_typeAssert _ _ _ _ | exact m_makeFunc _ _ _ | exact m_makeInterface _ _ | exact m_field _ _ _ | exact m_index _ _ _ | exact m_extract _ _ | exact m_makeSlice hR _ _ _ | exact m_buildSlice _ _ | exact m_build _ | exact m_box _ _ | exact m_sliceAt _ _ _ _ _ | exact m_slice _ _ _ _ _ | exact m_sliceBounds _ _ _ _ _ _ | exact m_sliceBound _ _ _ | exact m_indexAt _ _ _ | exact m_fieldAt _ _ _ | exact m_storeAt _ _ _ | exact m_loadAt _ _ | exact m_sureAddr _ | exact m_alloc _ _ _ | exact m_loadBytes _ _ _ | exact m_variablesAt _ _ _ | exact m_fieldPlace _ _ | exact m_partAt _ _ _ | exact m_byteOf _ | exact m_results _ _ | exact m_asAddr _ | exact m_asAgg _ | exact m_asString _ | exact m_asBool _ | exact m_asInt _ | exact m_asIntOf _ | exact m_boundsPanic _ _ _ _ | exact m_runtimePanic _ | exact m_part _ _ _ | exact m_elemOf _ | exact m_newVar _ _ | exact m_newRow _ _ | exact m_storeVar _ _ _ | exact m_loadVar _ _ | exact m_storeCells _ _ _ | exact m_loadCells _ _ | exact m_isAgg _ | exact m_sizeOf _ | exact m_zeroValue _ | exact m_typeStr _ | exact m_globalAddr _ | exact m_cutType _ | exact m_underlying _ | exact m_typeInfo _ | exact m_samePointer _ _ | exact m_sameAddr _ _ | exact m_mayBeOne _ _ | exact m_stringish _ | exact m_markStringish _ | exact m_noView _ | exact m_backFromNumber _ | exact m_behindNumber _ | exact m_asNumber _ _ | exact m_cellsIn _ | exact m_numberAt _ | exact m_viewAt _ | exact m_goPanic _ | exact m_unsupported _ | exact m_stuck _ | exact m_program | exact m_choose _ | exact m_setObj _ _ | exact m_getObj _ | exact m_frozen _ | exact m_freeze _ _ | exact m_shape _ | exact m_newObj _ | exact m_store _ _ _ | exact m_load _ _ | exact m_halt _ | exact m_pure _)
    | with_reducible refine m_map ?_
    | with_reducible refine m_bind ?_ (fun _ => ?_)
    | with_reducible refine m_ite ?_ ?_
    | refine m_forA (fun _ _ => ?_) _ _
    | refine m_forL (fun _ _ => ?_) _ _
    | refine m_forR (fun _ _ => ?_) _ _
    | refine m_mapA (fun _ => ?_) _
    | refine m_foldL (fun _ _ => ?_) _ _
    | split
    | dsimp only)

theorem m_keyThatStays (x y : Value) : M P ok (Instr.keyThatStays x y) := by
  unfold Instr.keyThatStays
  repeat' (first
    | with_reducible (first | assumption | exact m_lookup _ _ _ _ | exact m_findKey _ _ _ | exact m_findAsking _ _ _ _ | exact m_checkKey _ _ _ _ | exact m_convert _ _ _ | exact m_unsafePointer _ _ _ | exact m_seenAt _ | exact m_runesToString _ | exact m_bytesToString _ | exact m_stringToRunes _ _ | exact m_stringToBytes _ _ | exact m_intToString _ | exact m_complexToComplex _ _ _ _ | exact m_intToFloat _ _ | exact m_intToInt _ _ | exact m_binOp _ _ _ _ | exact m_eqGuard _ _ _ _ _ _ | exact m_movedPointer _ _ _ | exact m_movedNumber _ _ _ | exact m_unsafeAdd _ _ _ | exact m_eqGuardIn _ _ _ _ | exact m_equal _ _ _ | exact m_equalIn _ _ _ _ | exact m_addrMod _ _ _ | exact m_addrCmp _ _ _ | exact m_addrSub _ _ _ | exact m_twoPlaces _ _ | exact m_complexOp _ _ _ _ _ _ | exact m_cquot _ _ _ _ | exact m_ccorr _ _ _ _ _ | exact m_cproduct _ _ _ _ | exact m_cquo _ _ | exact m_cmul _ _ | exact m_csub _ _ | exact m_cadd _ _ | exact m_cconv _ _ _ | exact m_ccmp _ _ _ _ | exact m_carith _ _ _ _ | exact m_floatToInt _ _ _ | exact m_floatToFloat _ _ _ | exact m_unary _ _ | exact m_stringOp _ _ _ | exact m_floatCmp _ _ _ _ | exact m_floatArith _ _ _ _ | exact m_intCmp _ _ _ | exact m_shift _ _ _ _ _ | exact m_intBits _ _ _ _ | exact m_intDiv _ _ _ _ | exact m_intArith _ _ _ _ | exact m_typeAssert _ _ _ _ | exact m_makeFunc _ _ _ | exact m_makeInterface _ _ | exact m_field _ _ _ | exact m_index _ _ _ | exact m_extract _ _ | exact m_makeSlice hR _ _ _ | exact m_buildSlice _ _ | exact m_build _ | exact m_box _ _ | exact m_sliceAt _ _ _ _ _ | exact m_slice _ _ _ _ _ | exact m_sliceBounds _ _ _ _ _ _ | exact m_sliceBound _ _ _ | exact m_indexAt _ _ _ | exact m_fieldAt _ _ _ | exact m_storeAt _ _ _ | exact m_loadAt _ _ | exact m_sureAddr _ | exact m_alloc _ _ _ | exact m_loadBytes _ _ _ | exact m_variablesAt _ _ _ | exact m_fieldPlace _ _ | exact m_partAt _ _ _ | exact m_byteOf _ | exact m_results _ _ | exact m_asAddr _ | exact m_asAgg _ | exact m_asString _ | exact m_asBool _ | exact m_asInt _ | exact m_asIntOf _ | exact m_boundsPanic _ _ _ _ | exact m_runtimePanic _ | exact m_part _ _ _ | exact m_elemOf _ | exact m_newVar _ _ | exact m_newRow _ _ | exact m_storeVar _ _ _ | exact m_loadVar _ _ | exact m_storeCells _ _ _ | exact m_loadCells _ _ | exact m_isAgg _ | exact m_sizeOf _ | exact m_zeroValue _ | exact m_typeStr _ | exact m_globalAddr _ | exact m_cutType _ | exact m_underlying _ | exact m_typeInfo _ | exact m_samePointer _ _ | exact m_sameAddr _ _ | exact m_mayBeOne _ _ | exact m_stringish _ | exact m_markStringish _ | exact m_noView _ | exact m_backFromNumber _ | exact m_behindNumber _ | exact m_asNumber _ _ | exact m_cellsIn _ | exact m_numberAt _ | exact m_viewAt _ | exact m_goPanic _ | exact m_unsupported _ | exact m_stuck _ | exact m_program | exact m_choose _ | exact m_setObj _ _ | exact m_getObj _ | exact m_frozen _ | exact m_freeze _ _ | exact m_shape _ | exact m_newObj _ | exact m_store _ _ _ | exact m_load _ _ | exact m_halt _ | exact m_pure _)
    | with_reducible refine m_map ?_
    | with_reducible refine m_bind ?_ (fun _ => ?_)
    | with_reducible refine m_ite ?_ ?_
    | refine m_forA (fun _ _ => ?_) _ _
    | refine m_forL (fun _ _ => ?_) _ _
    | refine m_forR (fun _ _ => ?_) _ _
    | refine m_mapA (fun _ => ?_) _
    | refine m_foldL (fun _ _ => ?_) _ _
    | split
    | dsimp only)

theorem m_mapUpdate (t : TypeId) (m k v : Value) : M P ok (Instr.mapUpdate t m k v) := by
  unfold Instr.mapUpdate
  repeat' (first
    | with_reducible (first | assumption | exact m_keyThatStays _ _ | exact m_lookup _ _ _ _ | exact m_findKey _ _ _ | exact m_findAsking _ _ _ _ | exact m_checkKey _ _ _ _ | exact m_convert _ _ _ | exact m_unsafePointer _ _ _ | exact m_seenAt _ | exact m_runesToString _ | exact m_bytesToString _ | exact m_stringToRunes _ _ | exact m_stringToBytes _ _ | exact m_intToString _ | exact m_complexToComplex _ _ _ _ | exact m_intToFloat _ _ | exact m_intToInt _ _ | exact m_binOp _ _ _ _ | exact m_eqGuard _ _ _ _ _ _ | exact m_movedPointer _ _ _ | exact m_movedNumber _ _ _ | exact m_unsafeAdd _ _ _ | exact m_eqGuardIn _ _ _ _ | exact m_equal _ _ _ | exact m_equalIn _ _ _ _ | exact m_addrMod _ _ _ | exact m_addrCmp _ _ _ | exact m_addrSub _ _ _ | exact m_twoPlaces _ _ | exact m_complexOp _ _ _ _ _ _ | exact m_cquot _ _ _ _ | exact m_ccorr _ _ _ _ _ | exact m_cproduct _ _ _ _ | exact m_cquo _ _ | exact m_cmul _ _ | exact m_csub _ _ | exact m_cadd _ _ | exact m_cconv _ _ _ | exact m_ccmp _ _ _ _ | exact m_carith _ _ _ _ | exact m_floatToInt _ _ _ | exact m_floatToFloat _ _ _ | exact m_unary _ _ | exact m_stringOp _ _ _ | exact m_floatCmp _ _ _ _ | exact m_floatArith _ _ _ _ | exact m_intCmp _ _ _ | exact m_shift _ _ _ _ _ | exact m_intBits _ _ _ _ | exact m_intDiv _ _ _ _ | exact m_intArith _ _ _ _ | exact m_typeAssert _ _ _ _ | exact m_makeFunc _ _ _ | exact m_makeInterface _ _ | exact m_field _ _ _ | exact m_index _ _ _ | exact m_extract _ _ | exact m_makeSlice hR _ _ _ | exact m_buildSlice _ _ | exact m_build _ | exact m_box _ _ | exact m_sliceAt _ _ _ _ _ | exact m_slice _ _ _ _ _ | exact m_sliceBounds _ _ _ _ _ _ | exact m_sliceBound _ _ _ | exact m_indexAt _ _ _ | exact m_fieldAt _ _ _ | exact m_storeAt _ _ _ | exact m_loadAt _ _ | exact m_sureAddr _ | exact m_alloc _ _ _ | exact m_loadBytes _ _ _ | exact m_variablesAt _ _ _ | exact m_fieldPlace _ _ | exact m_partAt _ _ _ | exact m_byteOf _ | exact m_results _ _ | exact m_asAddr _ | exact m_asAgg _ | exact m_asString _ | exact m_asBool _ | exact m_asInt _ | exact m_asIntOf _ | exact m_boundsPanic _ _ _ _ | exact m_runtimePanic _ | exact m_part _ _ _ | exact m_elemOf _ | exact m_newVar _ _ | exact m_newRow _ _ | exact m_storeVar _ _ _ | exact m_loadVar _ _ | exact m_storeCells _ _ _ | exact m_loadCells _ _ | exact m_isAgg _ | exact m_sizeOf _ | exact m_zeroValue _ | exact m_typeStr _ | exact m_globalAddr _ | exact m_cutType _ | exact m_underlying _ | exact m_typeInfo _ | exact m_samePointer _ _ | exact m_sameAddr _ _ | exact m_mayBeOne _ _ | exact m_stringish _ | exact m_markStringish _ | exact m_noView _ | exact m_backFromNumber _ | exact m_behindNumber _ | exact m_asNumber _ _ | exact m_cellsIn _ | exact m_numberAt _ | exact m_viewAt _ | exact m_goPanic _ | exact m_unsupported _ | exact m_stuck _ | exact m_program | exact m_choose _ | exact m_setObj _ _ | exact m_getObj _ | exact m_frozen _ | exact m_freeze _ _ | exact m_shape _ | exact m_newObj _ | exact m_store _ _ _ | exact m_load _ _ | exact m_halt _ | exact m_pure _)
    | with_reducible refine m_map ?_
    | with_reducible refine m_bind ?_ (fun _ => ?_)
    | with_reducible refine m_ite ?_ ?_
    | refine m_forA (fun _ _ => ?_) _ _
    | refine m_forL (fun _ _ => ?_) _ _
    | refine m_forR (fun _ _ => ?_) _ _
    | refine m_mapA (fun _ => ?_) _
    | refine m_foldL (fun _ _ => ?_) _ _
    | split
    | dsimp only)

theorem m_makeMap (t : TypeId) (r : Option Value) : M P ok (Instr.makeMap t r) := by
  unfold Instr.makeMap
  repeat' (first
    | with_reducible (first | assumption | exact m_mapUpdate _ _ _ _ | exact m_keyThatStays _ _ | exact m_lookup _ _ _ _ | exact m_findKey _ _ _ | exact m_findAsking _ _ _ _ | exact m_checkKey _ _ _ _ | exact m_convert _ _ _ | exact m_unsafePointer _ _ _ | exact m_seenAt _ | exact m_runesToString _ | exact m_bytesToString _ | exact m_stringToRunes _ _ | exact m_stringToBytes _ _ | exact m_intToString _ | exact m_complexToComplex _ _ _ _ | exact m_intToFloat _ _ | exact m_intToInt _ _ | exact m_binOp _ _ _ _ | exact m_eqGuard _ _ _ _ _ _ | exact m_movedPointer _ _ _ | exact m_movedNumber _ _ _ | exact m_unsafeAdd _ _ _ | exact m_eqGuardIn _ _ _ _ | exact m_equal _ _ _ | exact m_equalIn _ _ _ _ | exact m_addrMod _ _ _ | exact m_addrCmp _ _ _ | exact m_addrSub _ _ _ | exact m_twoPlaces _ _ | exact m_complexOp _ _ _ _ _ _ | exact m_cquot _ _ _ _ | exact m_ccorr _ _ _ _ _ | exact m_cproduct _ _ _ _ | exact m_cquo _ _ | exact m_cmul _ _ | exact m_csub _ _ | exact m_cadd _ _ | exact m_cconv _ _ _ | exact m_ccmp _ _ _ _ | exact m_carith _ _ _ _ | exact m_floatToInt _ _ _ | exact m_floatToFloat _ _ _ | exact m_unary _ _ | exact m_stringOp _ _ _ | exact m_floatCmp _ _ _ _ | exact m_floatArith _ _ _ _ | exact m_intCmp _ _ _ | exact m_shift _ _ _ _ _ | exact m_intBits _ _ _ _ | exact m_intDiv _ _ _ _ | exact m_intArith _ _ _ _ | exact m_typeAssert _ _ _ _ | exact m_makeFunc _ _ _ | exact m_makeInterface _ _ | exact m_field _ _ _ | exact m_index _ _ _ | exact m_extract _ _ | exact m_makeSlice hR _ _ _ | exact m_buildSlice _ _ | exact m_build _ | exact m_box _ _ | exact m_sliceAt _ _ _ _ _ | exact m_slice _ _ _ _ _ | exact m_sliceBounds _ _ _ _ _ _ | exact m_sliceBound _ _ _ | exact m_indexAt _ _ _ | exact m_fieldAt _ _ _ | exact m_storeAt _ _ _ | exact m_loadAt _ _ | exact m_sureAddr _ | exact m_alloc _ _ _ | exact m_loadBytes _ _ _ | exact m_variablesAt _ _ _ | exact m_fieldPlace _ _ | exact m_partAt _ _ _ | exact m_byteOf _ | exact m_results _ _ | exact m_asAddr _ | exact m_asAgg _ | exact m_asString _ | exact m_asBool _ | exact m_asInt _ | exact m_asIntOf _ | exact m_boundsPanic _ _ _ _ | exact m_runtimePanic _ | exact m_part _ _ _ | exact m_elemOf _ | exact m_newVar _ _ | exact m_newRow _ _ | exact m_storeVar _ _ _ | exact m_loadVar _ _ | exact m_storeCells _ _ _ | exact m_loadCells _ _ | exact m_isAgg _ | exact m_sizeOf _ | exact m_zeroValue _ | exact m_typeStr _ | exact m_globalAddr _ | exact m_cutType _ | exact m_underlying _ | exact m_typeInfo _ | exact m_samePointer _ _ | exact m_sameAddr _ _ | exact m_mayBeOne _ _ | exact m_stringish _ | exact m_markStringish _ | exact m_noView _ | exact m_backFromNumber _ | exact m_behindNumber _ | exact m_asNumber _ _ | exact m_cellsIn _ | exact m_numberAt _ | exact m_viewAt _ | exact m_goPanic _ | exact m_unsupported _ | exact m_stuck _ | exact m_program | exact m_choose _ | exact m_setObj _ _ | exact m_getObj _ | exact m_frozen _ | exact m_freeze _ _ | exact m_shape _ | exact m_newObj _ | exact m_store _ _ _ | exact m_load _ _ | exact m_halt _ | exact m_pure _)
    | with_reducible refine m_map ?_
    | with_reducible refine m_bind ?_ (fun _ => ?_)
    | with_reducible refine m_ite ?_ ?_
    | refine m_forA (fun _ _ => ?_) _ _
    | refine m_forL (fun _ _ => ?_) _ _
    | refine m_forR (fun _ _ => ?_) _ _
    | refine m_mapA (fun _ => ?_) _
    | refine m_foldL (fun _ _ => ?_) _ _
    | split
    | dsimp only)

theorem m_range (t : TypeId) (x : Value) : M P ok (Instr.range t x) := by
  unfold Instr.range
  repeat' (first
    | with_reducible (first | assumption | exact m_makeMap _ _ | exact m_mapUpdate _ _ _ _ | exact m_keyThatStays _ _ | exact m_lookup _ _ _ _ | exact m_findKey _ _ _ | exact m_findAsking _ _ _ _ | exact m_checkKey _ _ _ _ | exact m_convert _ _ _ | exact m_unsafePointer _ _ _ | exact m_seenAt _ | exact m_runesToString _ | exact m_bytesToString _ | exact m_stringToRunes _ _ | exact m_stringToBytes _ _ | exact m_intToString _ | exact m_complexToComplex _ _ _ _ | exact m_intToFloat _ _ | exact m_intToInt _ _ | exact m_binOp _ _ _ _ | exact m_eqGuard _ _ _ _ _ _ | exact m_movedPointer _ _ _ | exact m_movedNumber _ _ _ | exact m_unsafeAdd _ _ _ | exact m_eqGuardIn _ _ _ _ | exact m_equal _ _ _ | exact m_equalIn _ _ _ _ | exact m_addrMod _ _ _ | exact m_addrCmp _ _ _ | exact m_addrSub _ _ _ | exact m_twoPlaces _ _ | exact m_complexOp _ _ _ _ _ _ | exact m_cquot _ _ _ _ | exact m_ccorr _ _ _ _ _ | exact m_cproduct _ _ _ _ | exact m_cquo _ _ | exact m_cmul _ _ | exact m_csub _ _ | exact m_cadd _ _ | exact m_cconv _ _ _ | exact m_ccmp _ _ _ _ | exact m_carith _ _ _ _ | exact m_floatToInt _ _ _ | exact m_floatToFloat _ _ _ | exact m_unary _ _ | exact m_stringOp _ _ _ | exact m_floatCmp _ _ _ _ | exact m_floatArith _ _ _ _ | exact m_intCmp _ _ _ | exact m_shift _ _ _ _ _ | exact m_intBits _ _ _ _ | exact m_intDiv _ _ _ _ | exact m_intArith _ _ _ _ | exact m_typeAssert _ _ _ _ | exact m_makeFunc _ _ _ | exact m_makeInterface _ _ | exact m_field _ _ _ | exact m_index _ _ _ | exact m_extract _ _ | exact m_makeSlice hR _ _ _ | exact m_buildSlice _ _ | exact m_build _ | exact m_box _ _ | exact m_sliceAt _ _ _ _ _ | exact m_slice _ _ _ _ _ | exact m_sliceBounds _ _ _ _ _ _ | exact m_sliceBound _ _ _ | exact m_indexAt _ _ _ | exact m_fieldAt _ _ _ | exact m_storeAt _ _ _ | exact m_loadAt _ _ | exact m_sureAddr _ | exact m_alloc _ _ _ | exact m_loadBytes _ _ _ | exact m_variablesAt _ _ _ | exact m_fieldPlace _ _ | exact m_partAt _ _ _ | exact m_byteOf _ | exact m_results _ _ | exact m_asAddr _ | exact m_asAgg _ | exact m_asString _ | exact m_asBool _ | exact m_asInt _ | exact m_asIntOf _ | exact m_boundsPanic _ _ _ _ | exact m_runtimePanic _ | exact m_part _ _ _ | exact m_elemOf _ | exact m_newVar _ _ | exact m_newRow _ _ | exact m_storeVar _ _ _ | exact m_loadVar _ _ | exact m_storeCells _ _ _ | exact m_loadCells _ _ | exact m_isAgg _ | exact m_sizeOf _ | exact m_zeroValue _ | exact m_typeStr _ | exact m_globalAddr _ | exact m_cutType _ | exact m_underlying _ | exact m_typeInfo _ | exact m_samePointer _ _ | exact m_sameAddr _ _ | exact m_mayBeOne _ _ | exact m_stringish _ | exact m_markStringish _ | exact m_noView _ | exact m_backFromNumber _ | exact m_behindNumber _ | exact m_asNumber _ _ | exact m_cellsIn _ | exact m_numberAt _ | exact m_viewAt _ | exact m_goPanic _ | exact m_unsupported _ | exact m_stuck _ | exact m_program | exact m_choose _ | exact m_setObj _ _ | exact m_getObj _ | exact m_frozen _ | exact m_freeze _ _ | exact m_shape _ | exact m_newObj _ | exact m_store _ _ _ | exact m_load _ _ | exact m_halt _ | exact m_pure _)
    | with_reducible refine m_map ?_
    | with_reducible refine m_bind ?_ (fun _ => ?_)
    | with_reducible refine m_ite ?_ ?_
    | refine m_forA (fun _ _ => ?_) _ _
    | refine m_forL (fun _ _ => ?_) _ _
    | refine m_forR (fun _ _ => ?_) _ _
    | refine m_mapA (fun _ => ?_) _
    | refine m_foldL (fun _ _ => ?_) _ _
    | split
    | dsimp only)

theorem m_next (v : Value) (b : Bool) (t : TypeId) : M P ok (Instr.next v b t) := by
  unfold Instr.next
  repeat' (first
    | with_reducible (first | assumption | exact m_range _ _ | exact m_makeMap _ _ | exact m_mapUpdate _ _ _ _ | exact m_keyThatStays _ _ | exact m_lookup _ _ _ _ | exact m_findKey _ _ _ | exact m_findAsking _ _ _ _ | exact m_checkKey _ _ _ _ | exact m_convert _ _ _ | exact m_unsafePointer _ _ _ | exact m_seenAt _ | exact m_runesToString _ | exact m_bytesToString _ | exact m_stringToRunes _ _ | exact m_stringToBytes _ _ | exact m_intToString _ | exact m_complexToComplex _ _ _ _ | exact m_intToFloat _ _ | exact m_intToInt _ _ | exact m_binOp _ _ _ _ | exact m_eqGuard _ _ _ _ _ _ | exact m_movedPointer _ _ _ | exact m_movedNumber _ _ _ | exact m_unsafeAdd _ _ _ | exact m_eqGuardIn _ _ _ _ | exact m_equal _ _ _ | exact m_equalIn _ _ _ _ | exact m_addrMod _ _ _ | exact m_addrCmp _ _ _ | exact m_addrSub _ _ _ | exact m_twoPlaces _ _ | exact m_complexOp _ _ _ _ _ _ | exact m_cquot _ _ _ _ | exact m_ccorr _ _ _ _ _ | exact m_cproduct _ _ _ _ | exact m_cquo _ _ | exact m_cmul _ _ | exact m_csub _ _ | exact m_cadd _ _ | exact m_cconv _ _ _ | exact m_ccmp _ _ _ _ | exact m_carith _ _ _ _ | exact m_floatToInt _ _ _ | exact m_floatToFloat _ _ _ | exact m_unary _ _ | exact m_stringOp _ _ _ | exact m_floatCmp _ _ _ _ | exact m_floatArith _ _ _ _ | exact m_intCmp _ _ _ | exact m_shift _ _ _ _ _ | exact m_intBits _ _ _ _ | exact m_intDiv _ _ _ _ | exact m_intArith _ _ _ _ | exact m_typeAssert _ _ _ _ | exact m_makeFunc _ _ _ | exact m_makeInterface _ _ | exact m_field _ _ _ | exact m_index _ _ _ | exact m_extract _ _ | exact m_makeSlice hR _ _ _ | exact m_buildSlice _ _ | exact m_build _ | exact m_box _ _ | exact m_sliceAt _ _ _ _ _ | exact m_slice _ _ _ _ _ | exact m_sliceBounds _ _ _ _ _ _ | exact m_sliceBound _ _ _ | exact m_indexAt _ _ _ | exact m_fieldAt _ _ _ | exact m_storeAt _ _ _ | exact m_loadAt _ _ | exact m_sureAddr _ | exact m_alloc _ _ _ | exact m_loadBytes _ _ _ | exact m_variablesAt _ _ _ | exact m_fieldPlace _ _ | exact m_partAt _ _ _ | exact m_byteOf _ | exact m_results _ _ | exact m_asAddr _ | exact m_asAgg _ | exact m_asString _ | exact m_asBool _ | exact m_asInt _ | exact m_asIntOf _ | exact m_boundsPanic _ _ _ _ | exact m_runtimePanic _ | exact m_part _ _ _ | exact m_elemOf _ | exact m_newVar _ _ | exact m_newRow _ _ | exact m_storeVar _ _ _ | exact m_loadVar _ _ | exact m_storeCells _ _ _ | exact m_loadCells _ _ | exact m_isAgg _ | exact m_sizeOf _ | exact m_zeroValue _ | exact m_typeStr _ | exact m_globalAddr _ | exact m_cutType _ | exact m_underlying _ | exact m_typeInfo _ | exact m_samePointer _ _ | exact m_sameAddr _ _ | exact m_mayBeOne _ _ | exact m_stringish _ | exact m_markStringish _ | exact m_noView _ | exact m_backFromNumber _ | exact m_behindNumber _ | exact m_asNumber _ _ | exact m_cellsIn _ | exact m_numberAt _ | exact m_viewAt _ | exact m_goPanic _ | exact m_unsupported _ | exact m_stuck _ | exact m_program | exact m_choose _ | exact m_setObj _ _ | exact m_getObj _ | exact m_frozen _ | exact m_freeze _ _ | exact m_shape _ | exact m_newObj _ | exact m_store _ _ _ | exact m_load _ _ | exact m_halt _ | exact m_pure _)
    | with_reducible refine m_map ?_
    | with_reducible refine m_bind ?_ (fun _ => ?_)
    | with_reducible refine m_ite ?_ ?_
    | refine m_forA (fun _ _ => ?_) _ _
    | refine m_forL (fun _ _ => ?_) _ _
    | refine m_forR (fun _ _ => ?_) _ _
    | refine m_mapA (fun _ => ?_) _
    | refine m_foldL (fun _ _ => ?_) _ _
    | split
    | dsimp only)

theorem m_len (a : Array TypeId) (t : TypeId) (v : Array Value) : M P ok (Builtin.len_ a t v) := by
  unfold Builtin.len_
  repeat' (first
    | with_reducible (first | assumption | exact m_next _ _ _ | exact m_range _ _ | exact m_makeMap _ _ | exact m_mapUpdate _ _ _ _ | exact m_keyThatStays _ _ | exact m_lookup _ _ _ _ | exact m_findKey _ _ _ | exact m_findAsking _ _ _ _ | exact m_checkKey _ _ _ _ | exact m_convert _ _ _ | exact m_unsafePointer _ _ _ | exact m_seenAt _ | exact m_runesToString _ | exact m_bytesToString _ | exact m_stringToRunes _ _ | exact m_stringToBytes _ _ | exact m_intToString _ | exact m_complexToComplex _ _ _ _ | exact m_intToFloat _ _ | exact m_intToInt _ _ | exact m_binOp _ _ _ _ | exact m_eqGuard _ _ _ _ _ _ | exact m_movedPointer _ _ _ | exact m_movedNumber _ _ _ | exact m_unsafeAdd _ _ _ | exact m_eqGuardIn _ _ _ _ | exact m_equal _ _ _ | exact m_equalIn _ _ _ _ | exact m_addrMod _ _ _ | exact m_addrCmp _ _ _ | exact m_addrSub _ _ _ | exact m_twoPlaces _ _ | exact m_complexOp _ _ _ _ _ _ | exact m_cquot _ _ _ _ | exact m_ccorr _ _ _ _ _ | exact m_cproduct _ _ _ _ | exact m_cquo _ _ | exact m_cmul _ _ | exact m_csub _ _ | exact m_cadd _ _ | exact m_cconv _ _ _ | exact m_ccmp _ _ _ _ | exact m_carith _ _ _ _ | exact m_floatToInt _ _ _ | exact m_floatToFloat _ _ _ | exact m_unary _ _ | exact m_stringOp _ _ _ | exact m_floatCmp _ _ _ _ | exact m_floatArith _ _ _ _ | exact m_intCmp _ _ _ | exact m_shift _ _ _ _ _ | exact m_intBits _ _ _ _ | exact m_intDiv _ _ _ _ | exact m_intArith _ _ _ _ | exact m_typeAssert _ _ _ _ | exact m_makeFunc _ _ _ | exact m_makeInterface _ _ | exact m_field _ _ _ | exact m_index _ _ _ | exact m_extract _ _ | exact m_makeSlice hR _ _ _ | exact m_buildSlice _ _ | exact m_build _ | exact m_box _ _ | exact m_sliceAt _ _ _ _ _ | exact m_slice _ _ _ _ _ | exact m_sliceBounds _ _ _ _ _ _ | exact m_sliceBound _ _ _ | exact m_indexAt _ _ _ | exact m_fieldAt _ _ _ | exact m_storeAt _ _ _ | exact m_loadAt _ _ | exact m_sureAddr _ | exact m_alloc _ _ _ | exact m_loadBytes _ _ _ | exact m_variablesAt _ _ _ | exact m_fieldPlace _ _ | exact m_partAt _ _ _ | exact m_byteOf _ | exact m_results _ _ | exact m_asAddr _ | exact m_asAgg _ | exact m_asString _ | exact m_asBool _ | exact m_asInt _ | exact m_asIntOf _ | exact m_boundsPanic _ _ _ _ | exact m_runtimePanic _ | exact m_part _ _ _ | exact m_elemOf _ | exact m_newVar _ _ | exact m_newRow _ _ | exact m_storeVar _ _ _ | exact m_loadVar _ _ | exact m_storeCells _ _ _ | exact m_loadCells _ _ | exact m_isAgg _ | exact m_sizeOf _ | exact m_zeroValue _ | exact m_typeStr _ | exact m_globalAddr _ | exact m_cutType _ | exact m_underlying _ | exact m_typeInfo _ | exact m_samePointer _ _ | exact m_sameAddr _ _ | exact m_mayBeOne _ _ | exact m_stringish _ | exact m_markStringish _ | exact m_noView _ | exact m_backFromNumber _ | exact m_behindNumber _ | exact m_asNumber _ _ | exact m_cellsIn _ | exact m_numberAt _ | exact m_viewAt _ | exact m_goPanic _ | exact m_unsupported _ | exact m_stuck _ | exact m_program | exact m_choose _ | exact m_setObj _ _ | exact m_getObj _ | exact m_frozen _ | exact m_freeze _ _ | exact m_shape _ | exact m_newObj _ | exact m_store _ _ _ | exact m_load _ _ | exact m_halt _ | exact m_pure _)
    | with_reducible refine m_map ?_
    | with_reducible refine m_bind ?_ (fun _ => ?_)
    | with_reducible refine m_ite ?_ ?_
    | refine m_forA (fun _ _ => ?_) _ _
    | refine m_forL (fun _ _ => ?_) _ _
    | refine m_forR (fun _ _ => ?_) _ _
    | refine m_mapA (fun _ => ?_) _
    | refine m_foldL (fun _ _ => ?_) _ _
    | split
    | dsimp only)

theorem m_cap (a : Array TypeId) (t : TypeId) (v : Array Value) : M P ok (Builtin.cap_ a t v) := by
  unfold Builtin.cap_
  repeat' (first
    | with_reducible (first | assumption | exact m_len _ _ _ | exact m_next _ _ _ | exact m_range _ _ | exact m_makeMap _ _ | exact m_mapUpdate _ _ _ _ | exact m_keyThatStays _ _ | exact m_lookup _ _ _ _ | exact m_findKey _ _ _ | exact m_findAsking _ _ _ _ | exact m_checkKey _ _ _ _ | exact m_convert _ _ _ | exact m_unsafePointer _ _ _ | exact m_seenAt _ | exact m_runesToString _ | exact m_bytesToString _ | exact m_stringToRunes _ _ | exact m_stringToBytes _ _ | exact m_intToString _ | exact m_complexToComplex _ _ _ _ | exact m_intToFloat _ _ | exact m_intToInt _ _ | exact m_binOp _ _ _ _ | exact m_eqGuard _ _ _ _ _ _ | exact m_movedPointer _ _ _ | exact m_movedNumber _ _ _ | exact m_unsafeAdd _ _ _ | exact m_eqGuardIn _ _ _ _ | exact m_equal _ _ _ | exact m_equalIn _ _ _ _ | exact m_addrMod _ _ _ | exact m_addrCmp _ _ _ | exact m_addrSub _ _ _ | exact m_twoPlaces _ _ | exact m_complexOp _ _ _ _ _ _ | exact m_cquot _ _ _ _ | exact m_ccorr _ _ _ _ _ | exact m_cproduct _ _ _ _ | exact m_cquo _ _ | exact m_cmul _ _ | exact m_csub _ _ | exact m_cadd _ _ | exact m_cconv _ _ _ | exact m_ccmp _ _ _ _ | exact m_carith _ _ _ _ | exact m_floatToInt _ _ _ | exact m_floatToFloat _ _ _ | exact m_unary _ _ | exact m_stringOp _ _ _ | exact m_floatCmp _ _ _ _ | exact m_floatArith _ _ _ _ | exact m_intCmp _ _ _ | exact m_shift _ _ _ _ _ | exact m_intBits _ _ _ _ | exact m_intDiv _ _ _ _ | exact m_intArith _ _ _ _ | exact m_typeAssert _ _ _ _ | exact m_makeFunc _ _ _ | exact m_makeInterface _ _ | exact m_field _ _ _ | exact m_index _ _ _ | exact m_extract _ _ | exact m_makeSlice hR _ _ _ | exact m_buildSlice _ _ | exact m_build _ | exact m_box _ _ | exact m_sliceAt _ _ _ _ _ | exact m_slice _ _ _ _ _ | exact m_sliceBounds _ _ _ _ _ _ | exact m_sliceBound _ _ _ | exact m_indexAt _ _ _ | exact m_fieldAt _ _ _ | exact m_storeAt _ _ _ | exact m_loadAt _ _ | exact m_sureAddr _ | exact m_alloc _ _ _ | exact m_loadBytes _ _ _ | exact m_variablesAt _ _ _ | exact m_fieldPlace _ _ | exact m_partAt _ _ _ | exact m_byteOf _ | exact m_results _ _ | exact m_asAddr _ | exact m_asAgg _ | exact m_asString _ | exact m_asBool _ | exact m_asInt _ | exact m_asIntOf _ | exact m_boundsPanic _ _ _ _ | exact m_runtimePanic _ | exact m_part _ _ _ | exact m_elemOf _ | exact m_newVar _ _ | exact m_newRow _ _ | exact m_storeVar _ _ _ | exact m_loadVar _ _ | exact m_storeCells _ _ _ | exact m_loadCells _ _ | exact m_isAgg _ | exact m_sizeOf _ | exact m_zeroValue _ | exact m_typeStr _ | exact m_globalAddr _ | exact m_cutType _ | exact m_underlying _ | exact m_typeInfo _ | exact m_samePointer _ _ | exact m_sameAddr _ _ | exact m_mayBeOne _ _ | exact m_stringish _ | exact m_markStringish _ | exact m_noView _ | exact m_backFromNumber _ | exact m_behindNumber _ | exact m_asNumber _ _ | exact m_cellsIn _ | exact m_numberAt _ | exact m_viewAt _ | exact m_goPanic _ | exact m_unsupported _ | exact m_stuck _ | exact m_program | exact m_choose _ | exact m_setObj _ _ | exact m_getObj _ | exact m_frozen _ | exact m_freeze _ _ | exact m_shape _ | exact m_newObj _ | exact m_store _ _ _ | exact m_load _ _ | exact m_halt _ | exact m_pure _)
    | with_reducible refine m_map ?_
    | with_reducible refine m_bind ?_ (fun _ => ?_)
    | with_reducible refine m_ite ?_ ?_
    | refine m_forA (fun _ _ => ?_) _ _
    | refine m_forL (fun _ _ => ?_) _ _
    | refine m_forR (fun _ _ => ?_) _ _
    | refine m_mapA (fun _ => ?_) _
    | refine m_foldL (fun _ _ => ?_) _ _
    | split
    | dsimp only)

theorem m_min2 (x y : Value) : M P ok (Builtin.min2 x y) := by
  unfold Builtin.min2
  repeat' (first
    | with_reducible (first | assumption | exact m_cap _ _ _ | exact m_len _ _ _ | exact m_next _ _ _ | exact m_range _ _ | exact m_makeMap _ _ | exact m_mapUpdate _ _ _ _ | exact m_keyThatStays _ _ | exact m_lookup _ _ _ _ | exact m_findKey _ _ _ | exact m_findAsking _ _ _ _ | exact m_checkKey _ _ _ _ | exact m_convert _ _ _ | exact m_unsafePointer _ _ _ | exact m_seenAt _ | exact m_runesToString _ | exact m_bytesToString _ | exact m_stringToRunes _ _ | exact m_stringToBytes _ _ | exact m_intToString _ | exact m_complexToComplex _ _ _ _ | exact m_intToFloat _ _ | exact m_intToInt _ _ | exact m_binOp _ _ _ _ | exact m_eqGuard _ _ _ _ _ _ | exact m_movedPointer _ _ _ | exact m_movedNumber _ _ _ | exact m_unsafeAdd _ _ _ | exact m_eqGuardIn _ _ _ _ | exact m_equal _ _ _ | exact m_equalIn _ _ _ _ | exact m_addrMod _ _ _ | exact m_addrCmp _ _ _ | exact m_addrSub _ _ _ | exact m_twoPlaces _ _ | exact m_complexOp _ _ _ _ _ _ | exact m_cquot _ _ _ _ | exact m_ccorr _ _ _ _ _ | exact m_cproduct _ _ _ _ | exact m_cquo _ _ | exact m_cmul _ _ | exact m_csub _ _ | exact m_cadd _ _ | exact m_cconv _ _ _ | exact m_ccmp _ _ _ _ | exact m_carith _ _ _ _ | exact m_floatToInt _ _ _ | exact m_floatToFloat _ _ _ | exact m_unary _ _ | exact m_stringOp _ _ _ | exact m_floatCmp _ _ _ _ | exact m_floatArith _ _ _ _ | exact m_intCmp _ _ _ | exact m_shift _ _ _ _ _ | exact m_intBits _ _ _ _ | exact m_intDiv _ _ _ _ | exact m_intArith _ _ _ _ | exact m_typeAssert _ _ _ _ | exact m_makeFunc _ _ _ | exact m_makeInterface _ _ | exact m_field _ _ _ | exact m_index _ _ _ | exact m_extract _ _ | exact m_makeSlice hR _ _ _ | exact m_buildSlice _ _ | exact m_build _ | exact m_box _ _ | exact m_sliceAt _ _ _ _ _ | exact m_slice _ _ _ _ _ | exact m_sliceBounds _ _ _ _ _ _ | exact m_sliceBound _ _ _ | exact m_indexAt _ _ _ | exact m_fieldAt _ _ _ | exact m_storeAt _ _ _ | exact m_loadAt _ _ | exact m_sureAddr _ | exact m_alloc _ _ _ | exact m_loadBytes _ _ _ | exact m_variablesAt _ _ _ | exact m_fieldPlace _ _ | exact m_partAt _ _ _ | exact m_byteOf _ | exact m_results _ _ | exact m_asAddr _ | exact m_asAgg _ | exact m_asString _ | exact m_asBool _ | exact m_asInt _ | exact m_asIntOf _ | exact m_boundsPanic _ _ _ _ | exact m_runtimePanic _ | exact m_part _ _ _ | exact m_elemOf _ | exact m_newVar _ _ | exact m_newRow _ _ | exact m_storeVar _ _ _ | exact m_loadVar _ _ | exact m_storeCells _ _ _ | exact m_loadCells _ _ | exact m_isAgg _ | exact m_sizeOf _ | exact m_zeroValue _ | exact m_typeStr _ | exact m_globalAddr _ | exact m_cutType _ | exact m_underlying _ | exact m_typeInfo _ | exact m_samePointer _ _ | exact m_sameAddr _ _ | exact m_mayBeOne _ _ | exact m_stringish _ | exact m_markStringish _ | exact m_noView _ | exact m_backFromNumber _ | exact m_behindNumber _ | exact m_asNumber _ _ | exact m_cellsIn _ | exact m_numberAt _ | exact m_viewAt _ | exact m_goPanic _ | exact m_unsupported _ | exact m_stuck _ | exact m_program | exact m_choose _ | exact m_setObj _ _ | exact m_getObj _ | exact m_frozen _ | exact m_freeze _ _ | exact m_shape _ | exact m_newObj _ | exact m_store _ _ _ | exact m_load _ _ | exact m_halt _ | exact m_pure _)
    | with_reducible refine m_map ?_
    | with_reducible refine m_bind ?_ (fun _ => ?_)
    | with_reducible refine m_ite ?_ ?_
    | refine m_forA (fun _ _ => ?_) _ _
    | refine m_forL (fun _ _ => ?_) _ _
    | refine m_forR (fun _ _ => ?_) _ _
    | refine m_mapA (fun _ => ?_) _
    | refine m_foldL (fun _ _ => ?_) _ _
    | split
    | dsimp only)

theorem m_min (a : Array TypeId) (t : TypeId) (v : Array Value) : M P ok (Builtin.min_ a t v) := by
  unfold Builtin.min_
  repeat' (first
    | with_reducible (first | assumption | exact m_min2 _ _ | exact m_cap _ _ _ | exact m_len _ _ _ | exact m_next _ _ _ | exact m_range _ _ | exact m_makeMap _ _ | exact m_mapUpdate _ _ _ _ | exact m_keyThatStays _ _ | exact m_lookup _ _ _ _ | exact m_findKey _ _ _ | exact m_findAsking _ _ _ _ | exact m_checkKey _ _ _ _ | exact m_convert _ _ _ | exact m_unsafePointer _ _ _ | exact m_seenAt _ | exact m_runesToString _ | exact m_bytesToString _ | exact m_stringToRunes _ _ | exact m_stringToBytes _ _ | exact m_intToString _ | exact m_complexToComplex _ _ _ _ | exact m_intToFloat _ _ | exact m_intToInt _ _ | exact m_binOp _ _ _ _ | exact m_eqGuard _ _ _ _ _ _ | exact m_movedPointer _ _ _ | exact m_movedNumber _ _ _ | exact m_unsafeAdd _ _ _ | exact m_eqGuardIn _ _ _ _ | exact m_equal _ _ _ | exact m_equalIn _ _ _ _ | exact m_addrMod _ _ _ | exact m_addrCmp _ _ _ | exact m_addrSub _ _ _ | exact m_twoPlaces _ _ | exact m_complexOp _ _ _ _ _ _ | exact m_cquot _ _ _ _ | exact m_ccorr _ _ _ _ _ | exact m_cproduct _ _ _ _ | exact m_cquo _ _ | exact m_cmul _ _ | exact m_csub _ _ | exact m_cadd _ _ | exact m_cconv _ _ _ | exact m_ccmp _ _ _ _ | exact m_carith _ _ _ _ | exact m_floatToInt _ _ _ | exact m_floatToFloat _ _ _ | exact m_unary _ _ | exact m_stringOp _ _ _ | exact m_floatCmp _ _ _ _ | exact m_floatArith _ _ _ _ | exact m_intCmp _ _ _ | exact m_shift _ _ _ _ _ | exact m_intBits _ _ _ _ | exact m_intDiv _ _ _ _ | exact m_intArith _ _ _ _ | exact m_typeAssert _ _ _ _ | exact m_makeFunc _ _ _ | exact m_makeInterface _ _ | exact m_field _ _ _ | exact m_index _ _ _ | exact m_extract _ _ | exact m_makeSlice hR _ _ _ | exact m_buildSlice _ _ | exact m_build _ | exact m_box _ _ | exact m_sliceAt _ _ _ _ _ | exact m_slice _ _ _ _ _ | exact m_sliceBounds _ _ _ _ _ _ | exact m_sliceBound _ _ _ | exact m_indexAt _ _ _ | exact m_fieldAt _ _ _ | exact m_storeAt _ _ _ | exact m_loadAt _ _ | exact m_sureAddr _ | exact m_alloc _ _ _ | exact m_loadBytes _ _ _ | exact m_variablesAt _ _ _ | exact m_fieldPlace _ _ | exact m_partAt _ _ _ | exact m_byteOf _ | exact m_results _ _ | exact m_asAddr _ | exact m_asAgg _ | exact m_asString _ | exact m_asBool _ | exact m_asInt _ | exact m_asIntOf _ | exact m_boundsPanic _ _ _ _ | exact m_runtimePanic _ | exact m_part _ _ _ | exact m_elemOf _ | exact m_newVar _ _ | exact m_newRow _ _ | exact m_storeVar _ _ _ | exact m_loadVar _ _ | exact m_storeCells _ _ _ | exact m_loadCells _ _ | exact m_isAgg _ | exact m_sizeOf _ | exact m_zeroValue _ | exact m_typeStr _ | exact m_globalAddr _ | exact m_cutType _ | exact m_underlying _ | exact m_typeInfo _ | exact m_samePointer _ _ | exact m_sameAddr _ _ | exact m_mayBeOne _ _ | exact m_stringish _ | exact m_markStringish _ | exact m_noView _ | exact m_backFromNumber _ | exact m_behindNumber _ | exact m_asNumber _ _ | exact m_cellsIn _ | exact m_numberAt _ | exact m_viewAt _ | exact m_goPanic _ | exact m_unsupported _ | exact m_stuck _ | exact m_program | exact m_choose _ | exact m_setObj _ _ | exact m_getObj _ | exact m_frozen _ | exact m_freeze _ _ | exact m_shape _ | exact m_newObj _ | exact m_store _ _ _ | exact m_load _ _ | exact m_halt _ | exact m_pure _)
    | with_reducible refine m_map ?_
    | with_reducible refine m_bind ?_ (fun _ => ?_)
    | with_reducible refine m_ite ?_ ?_
    | refine m_forA (fun _ _ => ?_) _ _
    | refine m_forL (fun _ _ => ?_) _ _
    | refine m_forR (fun _ _ => ?_) _ _
    | refine m_mapA (fun _ => ?_) _
    | refine m_foldL (fun _ _ => ?_) _ _
    | split
    | dsimp only)

theorem m_max2 (x y : Value) : M P ok (Builtin.max2 x y) := by
  unfold Builtin.max2
  repeat' (first
    | with_reducible (first | assumption | exact m_min _ _ _ | exact m_min2 _ _ | exact m_cap _ _ _ | exact m_len _ _ _ | exact m_next _ _ _ | exact m_range _ _ | exact m_makeMap _ _ | exact m_mapUpdate _ _ _ _ | exact m_keyThatStays _ _ | exact m_lookup _ _ _ _ | exact m_findKey _ _ _ | exact m_findAsking _ _ _ _ | exact m_checkKey _ _ _ _ | exact m_convert _ _ _ | exact m_unsafePointer _ _ _ | exact m_seenAt _ | exact m_runesToString _ | exact m_bytesToString _ | exact m_stringToRunes _ _ | exact m_stringToBytes _ _ | exact m_intToString _ | exact m_complexToComplex _ _ _ _ | exact m_intToFloat _ _ | exact m_intToInt _ _ | exact m_binOp _ _ _ _ | exact m_eqGuard _ _ _ _ _ _ | exact m_movedPointer _ _ _ | exact m_movedNumber _ _ _ | exact m_unsafeAdd _ _ _ | exact m_eqGuardIn _ _ _ _ | exact m_equal _ _ _ | exact m_equalIn _ _ _ _ | exact m_addrMod _ _ _ | exact m_addrCmp _ _ _ | exact m_addrSub _ _ _ | exact m_twoPlaces _ _ | exact m_complexOp _ _ _ _ _ _ | exact m_cquot _ _ _ _ | exact m_ccorr _ _ _ _ _ | exact m_cproduct _ _ _ _ | exact m_cquo _ _ | exact m_cmul _ _ | exact m_csub _ _ | exact m_cadd _ _ | exact m_cconv _ _ _ | exact m_ccmp _ _ _ _ | exact m_carith _ _ _ _ | exact m_floatToInt _ _ _ | exact m_floatToFloat _ _ _ | exact m_unary _ _ | exact m_stringOp _ _ _ | exact m_floatCmp _ _ _ _ | exact m_floatArith _ _ _ _ | exact m_intCmp _ _ _ | exact m_shift _ _ _ _ _ | exact m_intBits _ _ _ _ | exact m_intDiv _ _ _ _ | exact m_intArith _ _ _ _ | exact m_typeAssert _ _ _ _ | exact m_makeFunc _ _ _ | exact m_makeInterface _ _ | exact m_field _ _ _ | exact m_index _ _ _ | exact m_extract _ _ | exact m_makeSlice hR _ _ _ | exact m_buildSlice _ _ | exact m_build _ | exact m_box _ _ | exact m_sliceAt _ _ _ _ _ | exact m_slice _ _ _ _ _ | exact m_sliceBounds _ _ _ _ _ _ | exact m_sliceBound _ _ _ | exact m_indexAt _ _ _ | exact m_fieldAt _ _ _ | exact m_storeAt _ _ _ | exact m_loadAt _ _ | exact m_sureAddr _ | exact m_alloc _ _ _ | exact m_loadBytes _ _ _ | exact m_variablesAt _ _ _ | exact m_fieldPlace _ _ | exact m_partAt _ _ _ | exact m_byteOf _ | exact m_results _ _ | exact m_asAddr _ | exact m_asAgg _ | exact m_asString _ | exact m_asBool _ | exact m_asInt _ | exact m_asIntOf _ | exact m_boundsPanic _ _ _ _ | exact m_runtimePanic _ | exact m_part _ _ _ | exact m_elemOf _ | exact m_newVar _ _ | exact m_newRow _ _ | exact m_storeVar _ _ _ | exact m_loadVar _ _ | exact m_storeCells _ _ _ | exact m_loadCells _ _ | exact m_isAgg _ | exact m_sizeOf _ | exact m_zeroValue _ | exact m_typeStr _ | exact m_globalAddr _ | exact m_cutType _ | exact m_underlying _ | exact m_typeInfo _ | exact m_samePointer _ _ | exact m_sameAddr _ _ | exact m_mayBeOne _ _ | exact m_stringish _ | exact m_markStringish _ | exact m_noView _ | exact m_backFromNumber _ | exact m_behindNumber _ | exact m_asNumber _ _ | exact m_cellsIn _ | exact m_numberAt _ | exact m_viewAt _ | exact m_goPanic _ | exact m_unsupported _ | exact m_stuck _ | exact m_program | exact m_choose _ | exact m_setObj _ _ | exact m_getObj _ | exact m_frozen _ | exact m_freeze _ _ | exact m_shape _ | exact m_newObj _ | exact m_store _ _ _ | exact m_load _ _ | exact m_halt _ | exact m_pure _)
    | with_reducible refine m_map ?_
    | with_reducible refine m_bind ?_ (fun _ => ?_)
    | with_reducible refine m_ite ?_ ?_
    | refine m_forA (fun _ _ => ?_) _ _
    | refine m_forL (fun _ _ => ?_) _ _
    | refine m_forR (fun _ _ => ?_) _ _
    | refine m_mapA (fun _ => ?_) _
    | refine m_foldL (fun _ _ => ?_) _ _
    | split
    | dsimp only)

theorem m_max (a : Array TypeId) (t : TypeId) (v : Array Value) : M P ok (Builtin.max_ a t v) := by
  unfold Builtin.max_
  repeat' (first
    | with_reducible (first | assumption | exact m_max2 _ _ | exact m_min _ _ _ | exact m_min2 _ _ | exact m_cap _ _ _ | exact m_len _ _ _ | exact m_next _ _ _ | exact m_range _ _ | exact m_makeMap _ _ | exact m_mapUpdate _ _ _ _ | exact m_keyThatStays _ _ | exact m_lookup _ _ _ _ | exact m_findKey _ _ _ | exact m_findAsking _ _ _ _ | exact m_checkKey _ _ _ _ | exact m_convert _ _ _ | exact m_unsafePointer _ _ _ | exact m_seenAt _ | exact m_runesToString _ | exact m_bytesToString _ | exact m_stringToRunes _ _ | exact m_stringToBytes _ _ | exact m_intToString _ | exact m_complexToComplex _ _ _ _ | exact m_intToFloat _ _ | exact m_intToInt _ _ | exact m_binOp _ _ _ _ | exact m_eqGuard _ _ _ _ _ _ | exact m_movedPointer _ _ _ | exact m_movedNumber _ _ _ | exact m_unsafeAdd _ _ _ | exact m_eqGuardIn _ _ _ _ | exact m_equal _ _ _ | exact m_equalIn _ _ _ _ | exact m_addrMod _ _ _ | exact m_addrCmp _ _ _ | exact m_addrSub _ _ _ | exact m_twoPlaces _ _ | exact m_complexOp _ _ _ _ _ _ | exact m_cquot _ _ _ _ | exact m_ccorr _ _ _ _ _ | exact m_cproduct _ _ _ _ | exact m_cquo _ _ | exact m_cmul _ _ | exact m_csub _ _ | exact m_cadd _ _ | exact m_cconv _ _ _ | exact m_ccmp _ _ _ _ | exact m_carith _ _ _ _ | exact m_floatToInt _ _ _ | exact m_floatToFloat _ _ _ | exact m_unary _ _ | exact m_stringOp _ _ _ | exact m_floatCmp _ _ _ _ | exact m_floatArith _ _ _ _ | exact m_intCmp _ _ _ | exact m_shift _ _ _ _ _ | exact m_intBits _ _ _ _ | exact m_intDiv _ _ _ _ | exact m_intArith _ _ _ _ | exact m_typeAssert _ _ _ _ | exact m_makeFunc _ _ _ | exact m_makeInterface _ _ | exact m_field _ _ _ | exact m_index _ _ _ | exact m_extract _ _ | exact m_makeSlice hR _ _ _ | exact m_buildSlice _ _ | exact m_build _ | exact m_box _ _ | exact m_sliceAt _ _ _ _ _ | exact m_slice _ _ _ _ _ | exact m_sliceBounds _ _ _ _ _ _ | exact m_sliceBound _ _ _ | exact m_indexAt _ _ _ | exact m_fieldAt _ _ _ | exact m_storeAt _ _ _ | exact m_loadAt _ _ | exact m_sureAddr _ | exact m_alloc _ _ _ | exact m_loadBytes _ _ _ | exact m_variablesAt _ _ _ | exact m_fieldPlace _ _ | exact m_partAt _ _ _ | exact m_byteOf _ | exact m_results _ _ | exact m_asAddr _ | exact m_asAgg _ | exact m_asString _ | exact m_asBool _ | exact m_asInt _ | exact m_asIntOf _ | exact m_boundsPanic _ _ _ _ | exact m_runtimePanic _ | exact m_part _ _ _ | exact m_elemOf _ | exact m_newVar _ _ | exact m_newRow _ _ | exact m_storeVar _ _ _ | exact m_loadVar _ _ | exact m_storeCells _ _ _ | exact m_loadCells _ _ | exact m_isAgg _ | exact m_sizeOf _ | exact m_zeroValue _ | exact m_typeStr _ | exact m_globalAddr _ | exact m_cutType _ | exact m_underlying _ | exact m_typeInfo _ | exact m_samePointer _ _ | exact m_sameAddr _ _ | exact m_mayBeOne _ _ | exact m_stringish _ | exact m_markStringish _ | exact m_noView _ | exact m_backFromNumber _ | exact m_behindNumber _ | exact m_asNumber _ _ | exact m_cellsIn _ | exact m_numberAt _ | exact m_viewAt _ | exact m_goPanic _ | exact m_unsupported _ | exact m_stuck _ | exact m_program | exact m_choose _ | exact m_setObj _ _ | exact m_getObj _ | exact m_frozen _ | exact m_freeze _ _ | exact m_shape _ | exact m_newObj _ | exact m_store _ _ _ | exact m_load _ _ | exact m_halt _ | exact m_pure _)
    | with_reducible refine m_map ?_
    | with_reducible refine m_bind ?_ (fun _ => ?_)
    | with_reducible refine m_ite ?_ ?_
    | refine m_forA (fun _ _ => ?_) _ _
    | refine m_forL (fun _ _ => ?_) _ _
    | refine m_forR (fun _ _ => ?_) _ _
    | refine m_mapA (fun _ => ?_) _
    | refine m_foldL (fun _ _ => ?_) _ _
    | split
    | dsimp only)

theorem m_holdsCells (a : Addr) (n : Nat) : M P ok (Builtin.holdsCells a n) := by
  unfold Builtin.holdsCells
  repeat' (first
    | with_reducible (first | assumption | exact m_max _ _ _ | exact m_max2 _ _ | exact m_min _ _ _ | exact m_min2 _ _ | exact m_cap _ _ _ | exact m_len _ _ _ | exact m_next _ _ _ | exact m_range _ _ | exact m_makeMap _ _ | exact m_mapUpdate _ _ _ _ | exact m_keyThatStays _ _ | exact m_lookup _ _ _ _ | exact m_findKey _ _ _ | exact m_findAsking _ _ _ _ | exact m_checkKey _ _ _ _ | exact m_convert _ _ _ | exact m_unsafePointer _ _ _ | exact m_seenAt _ | exact m_runesToString _ | exact m_bytesToString _ | exact m_stringToRunes _ _ | exact m_stringToBytes _ _ | exact m_intToString _ | exact m_complexToComplex _ _ _ _ | exact m_intToFloat _ _ | exact m_intToInt _ _ | exact m_binOp _ _ _ _ | exact m_eqGuard _ _ _ _ _ _ | exact m_movedPointer _ _ _ | exact m_movedNumber _ _ _ | exact m_unsafeAdd _ _ _ | exact m_eqGuardIn _ _ _ _ | exact m_equal _ _ _ | exact m_equalIn _ _ _ _ | exact m_addrMod _ _ _ | exact m_addrCmp _ _ _ | exact m_addrSub _ _ _ | exact m_twoPlaces _ _ | exact m_complexOp _ _ _ _ _ _ | exact m_cquot _ _ _ _ | exact m_ccorr _ _ _ _ _ | exact m_cproduct _ _ _ _ | exact m_cquo _ _ | exact m_cmul _ _ | exact m_csub _ _ | exact m_cadd _ _ | exact m_cconv _ _ _ | exact m_ccmp _ _ _ _ | exact m_carith _ _ _ _ | exact m_floatToInt _ _ _ | exact m_floatToFloat _ _ _ | exact m_unary _ _ | exact m_stringOp _ _ _ | exact m_floatCmp _ _ _ _ | exact m_floatArith _ _ _ _ | exact m_intCmp _ _ _ | exact m_shift _ _ _ _ _ | exact m_intBits _ _ _ _ | exact m_intDiv _ _ _ _ | exact m_intArith _ _ _ _ | exact m_typeAssert _ _ _ _ | exact m_makeFunc _ _ _ | exact m_makeInterface _ _ | exact m_field _ _ _ | exact m_index _ _ _ | exact m_extract _ _ | exact m_makeSlice hR _ _ _ | exact m_buildSlice _ _ | exact m_build _ | exact m_box _ _ | exact m_sliceAt _ _ _ _ _ | exact m_slice _ _ _ _ _ | exact m_sliceBounds _ _ _ _ _ _ | exact m_sliceBound _ _ _ | exact m_indexAt _ _ _ | exact m_fieldAt _ _ _ | exact m_storeAt _ _ _ | exact m_loadAt _ _ | exact m_sureAddr _ | exact m_alloc _ _ _ | exact m_loadBytes _ _ _ | exact m_variablesAt _ _ _ | exact m_fieldPlace _ _ | exact m_partAt _ _ _ | exact m_byteOf _ | exact m_results _ _ | exact m_asAddr _ | exact m_asAgg _ | exact m_asString _ | exact m_asBool _ | exact m_asInt _ | exact m_asIntOf _ | exact m_boundsPanic _ _ _ _ | exact m_runtimePanic _ | exact m_part _ _ _ | exact m_elemOf _ | exact m_newVar _ _ | exact m_newRow _ _ | exact m_storeVar _ _ _ | exact m_loadVar _ _ | exact m_storeCells _ _ _ | exact m_loadCells _ _ | exact m_isAgg _ | exact m_sizeOf _ | exact m_zeroValue _ | exact m_typeStr _ | exact m_globalAddr _ | exact m_cutType _ | exact m_underlying _ | exact m_typeInfo _ | exact m_samePointer _ _ | exact m_sameAddr _ _ | exact m_mayBeOne _ _ | exact m_stringish _ | exact m_markStringish _ | exact m_noView _ | exact m_backFromNumber _ | exact m_behindNumber _ | exact m_asNumber _ _ | exact m_cellsIn _ | exact m_numberAt _ | exact m_viewAt _ | exact m_goPanic _ | exact m_unsupported _ | exact m_stuck _ | exact m_program | exact m_choose _ | exact m_setObj _ _ | exact m_getObj _ | exact m_frozen _ | exact m_freeze _ _ | exact m_shape _ | exact m_newObj _ | exact m_store _ _ _ | exact m_load _ _ | exact m_halt _ | exact m_pure _)
    | with_reducible refine m_map ?_
    | with_reducible refine m_bind ?_ (fun _ => ?_)
    | with_reducible refine m_ite ?_ ?_
    | refine m_forA (fun _ _ => ?_) _ _
    | refine m_forL (fun _ _ => ?_) _ _
    | refine m_forR (fun _ _ => ?_) _ _
    | refine m_mapA (fun _ => ?_) _
    | refine m_foldL (fun _ _ => ?_) _ _
    | split
    | dsimp only)

theorem m_mayShare (s l n : Nat) (b : Option Addr) (x : Value) : M P ok (Builtin.mayShare s l n b x) := by
  unfold Builtin.mayShare
  repeat' (first
    | with_reducible (first | assumption | exact m_holdsCells _ _ | exact m_max _ _ _ | exact m_max2 _ _ | exact m_min _ _ _ | exact m_min2 _ _ | exact m_cap _ _ _ | exact m_len _ _ _ | exact m_next _ _ _ | exact m_range _ _ | exact m_makeMap _ _ | exact m_mapUpdate _ _ _ _ | exact m_keyThatStays _ _ | exact m_lookup _ _ _ _ | exact m_findKey _ _ _ | exact m_findAsking _ _ _ _ | exact m_checkKey _ _ _ _ | exact m_convert _ _ _ | exact m_unsafePointer _ _ _ | exact m_seenAt _ | exact m_runesToString _ | exact m_bytesToString _ | exact m_stringToRunes _ _ | exact m_stringToBytes _ _ | exact m_intToString _ | exact m_complexToComplex _ _ _ _ | exact m_intToFloat _ _ | exact m_intToInt _ _ | exact m_binOp _ _ _ _ | exact m_eqGuard _ _ _ _ _ _ | exact m_movedPointer _ _ _ | exact m_movedNumber _ _ _ | exact m_unsafeAdd _ _ _ | exact m_eqGuardIn _ _ _ _ | exact m_equal _ _ _ | exact m_equalIn _ _ _ _ | exact m_addrMod _ _ _ | exact m_addrCmp _ _ _ | exact m_addrSub _ _ _ | exact m_twoPlaces _ _ | exact m_complexOp _ _ _ _ _ _ | exact m_cquot _ _ _ _ | exact m_ccorr _ _ _ _ _ | exact m_cproduct _ _ _ _ | exact m_cquo _ _ | exact m_cmul _ _ | exact m_csub _ _ | exact m_cadd _ _ | exact m_cconv _ _ _ | exact m_ccmp _ _ _ _ | exact m_carith _ _ _ _ | exact m_floatToInt _ _ _ | exact m_floatToFloat _ _ _ | exact m_unary _ _ | exact m_stringOp _ _ _ | exact m_floatCmp _ _ _ _ | exact m_floatArith _ _ _ _ | exact m_intCmp _ _ _ | exact m_shift _ _ _ _ _ | exact m_intBits _ _ _ _ | exact m_intDiv _ _ _ _ | exact m_intArith _ _ _ _ | exact m_typeAssert _ _ _ _ | exact m_makeFunc _ _ _ | exact m_makeInterface _ _ | exact m_field _ _ _ | exact m_index _ _ _ | exact m_extract _ _ | exact m_makeSlice hR _ _ _ | exact m_buildSlice _ _ | exact m_build _ | exact m_box _ _ | exact m_sliceAt _ _ _ _ _ | exact m_slice _ _ _ _ _ | exact m_sliceBounds _ _ _ _ _ _ | exact m_sliceBound _ _ _ | exact m_indexAt _ _ _ | exact m_fieldAt _ _ _ | exact m_storeAt _ _ _ | exact m_loadAt _ _ | exact m_sureAddr _ | exact m_alloc _ _ _ | exact m_loadBytes _ _ _ | exact m_variablesAt _ _ _ | exact m_fieldPlace _ _ | exact m_partAt _ _ _ | exact m_byteOf _ | exact m_results _ _ | exact m_asAddr _ | exact m_asAgg _ | exact m_asString _ | exact m_asBool _ | exact m_asInt _ | exact m_asIntOf _ | exact m_boundsPanic _ _ _ _ | exact m_runtimePanic _ | exact m_part _ _ _ | exact m_elemOf _ | exact m_newVar _ _ | exact m_newRow _ _ | exact m_storeVar _ _ _ | exact m_loadVar _ _ | exact m_storeCells _ _ _ | exact m_loadCells _ _ | exact m_isAgg _ | exact m_sizeOf _ | exact m_zeroValue _ | exact m_typeStr _ | exact m_globalAddr _ | exact m_cutType _ | exact m_underlying _ | exact m_typeInfo _ | exact m_samePointer _ _ | exact m_sameAddr _ _ | exact m_mayBeOne _ _ | exact m_stringish _ | exact m_markStringish _ | exact m_noView _ | exact m_backFromNumber _ | exact m_behindNumber _ | exact m_asNumber _ _ | exact m_cellsIn _ | exact m_numberAt _ | exact m_viewAt _ | exact m_goPanic _ | exact m_unsupported _ | exact m_stuck _ | exact m_program | exact m_choose _ | exact m_setObj _ _ | exact m_getObj _ | exact m_frozen _ | exact m_freeze _ _ | exact m_shape _ | exact m_newObj _ | exact m_store _ _ _ | exact m_load _ _ | exact m_halt _ | exact m_pure _)
    | with_reducible refine m_map ?_
    | with_reducible refine m_bind ?_ (fun _ => ?_)
    | with_reducible refine m_ite ?_ ?_
    | refine m_forA (fun _ _ => ?_) _ _
    | refine m_forL (fun _ _ => ?_) _ _
    | refine m_forR (fun _ _ => ?_) _ _
    | refine m_mapA (fun _ => ?_) _
    | refine m_foldL (fun _ _ => ?_) _ _
    | split
    | dsimp only)

theorem m_lenOf (v : Value) : M P ok (Builtin.lenOf v) := by
  unfold Builtin.lenOf
  repeat' (first
    | with_reducible (first | assumption | exact m_mayShare _ _ _ _ _ | exact m_holdsCells _ _ | exact m_max _ _ _ | exact m_max2 _ _ | exact m_min _ _ _ | exact m_min2 _ _ | exact m_cap _ _ _ | exact m_len _ _ _ | exact m_next _ _ _ | exact m_range _ _ | exact m_makeMap _ _ | exact m_mapUpdate _ _ _ _ | exact m_keyThatStays _ _ | exact m_lookup _ _ _ _ | exact m_findKey _ _ _ | exact m_findAsking _ _ _ _ | exact m_checkKey _ _ _ _ | exact m_convert _ _ _ | exact m_unsafePointer _ _ _ | exact m_seenAt _ | exact m_runesToString _ | exact m_bytesToString _ | exact m_stringToRunes _ _ | exact m_stringToBytes _ _ | exact m_intToString _ | exact m_complexToComplex _ _ _ _ | exact m_intToFloat _ _ | exact m_intToInt _ _ | exact m_binOp _ _ _ _ | exact m_eqGuard _ _ _ _ _ _ | exact m_movedPointer _ _ _ | exact m_movedNumber _ _ _ | exact m_unsafeAdd _ _ _ | exact m_eqGuardIn _ _ _ _ | exact m_equal _ _ _ | exact m_equalIn _ _ _ _ | exact m_addrMod _ _ _ | exact m_addrCmp _ _ _ | exact m_addrSub _ _ _ | exact m_twoPlaces _ _ | exact m_complexOp _ _ _ _ _ _ | exact m_cquot _ _ _ _ | exact m_ccorr _ _ _ _ _ | exact m_cproduct _ _ _ _ | exact m_cquo _ _ | exact m_cmul _ _ | exact m_csub _ _ | exact m_cadd _ _ | exact m_cconv _ _ _ | exact m_ccmp _ _ _ _ | exact m_carith _ _ _ _ | exact m_floatToInt _ _ _ | exact m_floatToFloat _ _ _ | exact m_unary _ _ | exact m_stringOp _ _ _ | exact m_floatCmp _ _ _ _ | exact m_floatArith _ _ _ _ | exact m_intCmp _ _ _ | exact m_shift _ _ _ _ _ | exact m_intBits _ _ _ _ | exact m_intDiv _ _ _ _ | exact m_intArith _ _ _ _ | exact m_typeAssert _ _ _ _ | exact m_makeFunc _ _ _ | exact m_makeInterface _ _ | exact m_field _ _ _ | exact m_index _ _ _ | exact m_extract _ _ | exact m_makeSlice hR _ _ _ | exact m_buildSlice _ _ | exact m_build _ | exact m_box _ _ | exact m_sliceAt _ _ _ _ _ | exact m_slice _ _ _ _ _ | exact m_sliceBounds _ _ _ _ _ _ | exact m_sliceBound _ _ _ | exact m_indexAt _ _ _ | exact m_fieldAt _ _ _ | exact m_storeAt _ _ _ | exact m_loadAt _ _ | exact m_sureAddr _ | exact m_alloc _ _ _ | exact m_loadBytes _ _ _ | exact m_variablesAt _ _ _ | exact m_fieldPlace _ _ | exact m_partAt _ _ _ | exact m_byteOf _ | exact m_results _ _ | exact m_asAddr _ | exact m_asAgg _ | exact m_asString _ | exact m_asBool _ | exact m_asInt _ | exact m_asIntOf _ | exact m_boundsPanic _ _ _ _ | exact m_runtimePanic _ | exact m_part _ _ _ | exact m_elemOf _ | exact m_newVar _ _ | exact m_newRow _ _ | exact m_storeVar _ _ _ | exact m_loadVar _ _ | exact m_storeCells _ _ _ | exact m_loadCells _ _ | exact m_isAgg _ | exact m_sizeOf _ | exact m_zeroValue _ | exact m_typeStr _ | exact m_globalAddr _ | exact m_cutType _ | exact m_underlying _ | exact m_typeInfo _ | exact m_samePointer _ _ | exact m_sameAddr _ _ | exact m_mayBeOne _ _ | exact m_stringish _ | exact m_markStringish _ | exact m_noView _ | exact m_backFromNumber _ | exact m_behindNumber _ | exact m_asNumber _ _ | exact m_cellsIn _ | exact m_numberAt _ | exact m_viewAt _ | exact m_goPanic _ | exact m_unsupported _ | exact m_stuck _ | exact m_program | exact m_choose _ | exact m_setObj _ _ | exact m_getObj _ | exact m_frozen _ | exact m_freeze _ _ | exact m_shape _ | exact m_newObj _ | exact m_store _ _ _ | exact m_load _ _ | exact m_halt _ | exact m_pure _)
    | with_reducible refine m_map ?_
    | with_reducible refine m_bind ?_ (fun _ => ?_)
    | with_reducible refine m_ite ?_ ?_
    | refine m_forA (fun _ _ => ?_) _ _
    | refine m_forL (fun _ _ => ?_) _ _
    | refine m_forR (fun _ _ => ?_) _ _
    | refine m_mapA (fun _ => ?_) _
    | refine m_foldL (fun _ _ => ?_) _ _
    | split
    | dsimp only)

theorem m_firstCells (s n : Nat) (v : Value) : M P ok (Builtin.firstCells s n v) := by
  unfold Builtin.firstCells
  repeat' (first
    | with_reducible (first | assumption | exact m_lenOf _ | exact m_mayShare _ _ _ _ _ | exact m_holdsCells _ _ | exact m_max _ _ _ | exact m_max2 _ _ | exact m_min _ _ _ | exact m_min2 _ _ | exact m_cap _ _ _ | exact m_len _ _ _ | exact m_next _ _ _ | exact m_range _ _ | exact m_makeMap _ _ | exact m_mapUpdate _ _ _ _ | exact m_keyThatStays _ _ | exact m_lookup _ _ _ _ | exact m_findKey _ _ _ | exact m_findAsking _ _ _ _ | exact m_checkKey _ _ _ _ | exact m_convert _ _ _ | exact m_unsafePointer _ _ _ | exact m_seenAt _ | exact m_runesToString _ | exact m_bytesToString _ | exact m_stringToRunes _ _ | exact m_stringToBytes _ _ | exact m_intToString _ | exact m_complexToComplex _ _ _ _ | exact m_intToFloat _ _ | exact m_intToInt _ _ | exact m_binOp _ _ _ _ | exact m_eqGuard _ _ _ _ _ _ | exact m_movedPointer _ _ _ | exact m_movedNumber _ _ _ | exact m_unsafeAdd _ _ _ | exact m_eqGuardIn _ _ _ _ | exact m_equal _ _ _ | exact m_equalIn _ _ _ _ | exact m_addrMod _ _ _ | exact m_addrCmp _ _ _ | exact m_addrSub _ _ _ | exact m_twoPlaces _ _ | exact m_complexOp _ _ _ _ _ _ | exact m_cquot _ _ _ _ | exact m_ccorr _ _ _ _ _ | exact m_cproduct _ _ _ _ | exact m_cquo _ _ | exact m_cmul _ _ | exact m_csub _ _ | exact m_cadd _ _ | exact m_cconv _ _ _ | exact m_ccmp _ _ _ _ | exact m_carith _ _ _ _ | exact m_floatToInt _ _ _ | exact m_floatToFloat _ _ _ | exact m_unary _ _ | exact m_stringOp _ _ _ | exact m_floatCmp _ _ _ _ | exact m_floatArith _ _ _ _ | exact m_intCmp _ _ _ | exact m_shift _ _ _ _ _ | exact m_intBits _ _ _ _ | exact m_intDiv _ _ _ _ | exact m_intArith _ _ _ _ | exact m_typeAssert _ _ _ _ | exact m_makeFunc _ _ _ | exact m_makeInterface _ _ | exact m_field _ _ _ | exact m_index _ _ _ | exact m_extract _ _ | exact m_makeSlice hR _ _ _ | exact m_buildSlice _ _ | exact m_build _ | exact m_box _ _ | exact m_sliceAt _ _ _ _ _ | exact m_slice _ _ _ _ _ | exact m_sliceBounds _ _ _ _ _ _ | exact m_sliceBound _ _ _ | exact m_indexAt _ _ _ | exact m_fieldAt _ _ _ | exact m_storeAt _ _ _ | exact m_loadAt _ _ | exact m_sureAddr _ | exact m_alloc _ _ _ | exact m_loadBytes _ _ _ | exact m_variablesAt _ _ _ | exact m_fieldPlace _ _ | exact m_partAt _ _ _ | exact m_byteOf _ | exact m_results _ _ | exact m_asAddr _ | exact m_asAgg _ | exact m_asString _ | exact m_asBool _ | exact m_asInt _ | exact m_asIntOf _ | exact m_boundsPanic _ _ _ _ | exact m_runtimePanic _ | exact m_part _ _ _ | exact m_elemOf _ | exact m_newVar _ _ | exact m_newRow _ _ | exact m_storeVar _ _ _ | exact m_loadVar _ _ | exact m_storeCells _ _ _ | exact m_loadCells _ _ | exact m_isAgg _ | exact m_sizeOf _ | exact m_zeroValue _ | exact m_typeStr _ | exact m_globalAddr _ | exact m_cutType _ | exact m_underlying _ | exact m_typeInfo _ | exact m_samePointer _ _ | exact m_sameAddr _ _ | exact m_mayBeOne _ _ | exact m_stringish _ | exact m_markStringish _ | exact m_noView _ | exact m_backFromNumber _ | exact m_behindNumber _ | exact m_asNumber _ _ | exact m_cellsIn _ | exact m_numberAt _ | exact m_viewAt _ | exact m_goPanic _ | exact m_unsupported _ | exact m_stuck _ | exact m_program | exact m_choose _ | exact m_setObj _ _ | exact m_getObj _ | exact m_frozen _ | exact m_freeze _ _ | exact m_shape _ | exact m_newObj _ | exact m_store _ _ _ | exact m_load _ _ | exact m_halt _ | exact m_pure _)
    | with_reducible refine m_map ?_
    | with_reducible refine m_bind ?_ (fun _ => ?_)
    | with_reducible refine m_ite ?_ ?_
    | refine m_forA (fun _ _ => ?_) _ _
    | refine m_forL (fun _ _ => ?_) _ _
    | refine m_forR (fun _ _ => ?_) _ _
    | refine m_mapA (fun _ => ?_) _
    | refine m_foldL (fun _ _ => ?_) _ _
    | split
    | dsimp only)

theorem m_mark {m : Mark} (h : ok m) : M P ok (mark m) := ⟨h, trivial⟩

set_option maxHeartbeats 8000000 in
theorem m_append (hR : ok .noRoom) (a : Array TypeId) (t : TypeId) (v : Array Value) : M P ok (Builtin.append_ a t v) := by
  unfold Builtin.append_
  repeat' (first
    | with_reducible (first | assumption | exact m_mark hR | exact m_askRoom hR _ | exact m_firstCells _ _ _ | exact m_lenOf _ | exact m_mayShare _ _ _ _ _ | exact m_holdsCells _ _ | exact m_max _ _ _ | exact m_max2 _ _ | exact m_min _ _ _ | exact m_min2 _ _ | exact m_cap _ _ _ | exact m_len _ _ _ | exact m_next _ _ _ | exact m_range _ _ | exact m_makeMap _ _ | exact m_mapUpdate _ _ _ _ | exact m_keyThatStays _ _ | exact m_lookup _ _ _ _ | exact m_findKey _ _ _ | exact m_findAsking _ _ _ _ | exact m_checkKey _ _ _ _ | exact m_convert _ _ _ | exact m_unsafePointer _ _ _ | exact m_seenAt _ | exact m_runesToString _ | exact m_bytesToString _ | exact m_stringToRunes _ _ | exact m_stringToBytes _ _ | exact m_intToString _ | exact m_complexToComplex _ _ _ _ | exact m_intToFloat _ _ | exact m_intToInt _ _ | exact m_binOp _ _ _ _ | exact m_eqGuard _ _ _ _ _ _ | exact m_movedPointer _ _ _ | exact m_movedNumber _ _ _ | exact m_unsafeAdd _ _ _ | exact m_eqGuardIn _ _ _ _ | exact m_equal _ _ _ | exact m_equalIn _ _ _ _ | exact m_addrMod _ _ _ | exact m_addrCmp _ _ _ | exact m_addrSub _ _ _ | exact m_twoPlaces _ _ | exact m_complexOp _ _ _ _ _ _ | exact m_cquot _ _ _ _ | exact m_ccorr _ _ _ _ _ | exact m_cproduct _ _ _ _ | exact m_cquo _ _ | exact m_cmul _ _ | exact m_csub _ _ | exact m_cadd _ _ | exact m_cconv _ _ _ | exact m_ccmp _ _ _ _ | exact m_carith _ _ _ _ | exact m_floatToInt _ _ _ | exact m_floatToFloat _ _ _ | exact m_unary _ _ | exact m_stringOp _ _ _ | exact m_floatCmp _ _ _ _ | exact m_floatArith _ _ _ _ | exact m_intCmp _ _ _ | exact m_shift _ _ _ _ _ | exact m_intBits _ _ _ _ | exact m_intDiv _ _ _ _ | exact m_intArith _ _ _ _ | exact m_typeAssert _ _ _ _ | exact m_makeFunc _ _ _ | exact m_makeInterface _ _ | exact m_field _ _ _ | exact m_index _ _ _ | exact m_extract _ _ | exact m_makeSlice hR _ _ _ | exact m_buildSlice _ _ | exact m_build _ | exact m_box _ _ | exact m_sliceAt _ _ _ _ _ | exact m_slice _ _ _ _ _ | exact m_sliceBounds _ _ _ _ _ _ | exact m_sliceBound _ _ _ | exact m_indexAt _ _ _ | exact m_fieldAt _ _ _ | exact m_storeAt _ _ _ | exact m_loadAt _ _ | exact m_sureAddr _ | exact m_alloc _ _ _ | exact m_loadBytes _ _ _ | exact m_variablesAt _ _ _ | exact m_fieldPlace _ _ | exact m_partAt _ _ _ | exact m_byteOf _ | exact m_results _ _ | exact m_asAddr _ | exact m_asAgg _ | exact m_asString _ | exact m_asBool _ | exact m_asInt _ | exact m_asIntOf _ | exact m_boundsPanic _ _ _ _ | exact m_runtimePanic _ | exact m_part _ _ _ | exact m_elemOf _ | exact m_newVar _ _ | exact m_newRow _ _ | exact m_storeVar _ _ _ | exact m_loadVar _ _ | exact m_storeCells _ _ _ | exact m_loadCells _ _ | exact m_isAgg _ | exact m_sizeOf _ | exact m_zeroValue _ | exact m_typeStr _ | exact m_globalAddr _ | exact m_cutType _ | exact m_underlying _ | exact m_typeInfo _ | exact m_samePointer _ _ | exact m_sameAddr _ _ | exact m_mayBeOne _ _ | exact m_stringish _ | exact m_markStringish _ | exact m_noView _ | exact m_backFromNumber _ | exact m_behindNumber _ | exact m_asNumber _ _ | exact m_cellsIn _ | exact m_numberAt _ | exact m_viewAt _ | exact m_goPanic _ | exact m_unsupported _ | exact m_stuck _ | exact m_program | exact m_choose _ | exact m_setObj _ _ | exact m_getObj _ | exact m_frozen _ | exact m_freeze _ _ | exact m_shape _ | exact m_newObj _ | exact m_store _ _ _ | exact m_load _ _ | exact m_halt _ | exact m_pure _)
    | with_reducible refine m_map ?_
    | with_reducible refine m_bind ?_ (fun _ => ?_)
    | with_reducible refine m_ite ?_ ?_
    | refine m_forA (fun _ _ => ?_) _ _
    | refine m_forL (fun _ _ => ?_) _ _
    | refine m_forR (fun _ _ => ?_) _ _
    | refine m_mapA (fun _ => ?_) _
    | refine m_foldL (fun _ _ => ?_) _ _
    | split
    | dsimp only)

theorem m_copy (a : Array TypeId) (t : TypeId) (v : Array Value) : M P ok (Builtin.copy_ a t v) := by
  unfold Builtin.copy_
  repeat' (first
    | with_reducible (first | assumption | exact m_append hR _ _ _ | exact m_firstCells _ _ _ | exact m_lenOf _ | exact m_mayShare _ _ _ _ _ | exact m_holdsCells _ _ | exact m_max _ _ _ | exact m_max2 _ _ | exact m_min _ _ _ | exact m_min2 _ _ | exact m_cap _ _ _ | exact m_len _ _ _ | exact m_next _ _ _ | exact m_range _ _ | exact m_makeMap _ _ | exact m_mapUpdate _ _ _ _ | exact m_keyThatStays _ _ | exact m_lookup _ _ _ _ | exact m_findKey _ _ _ | exact m_findAsking _ _ _ _ | exact m_checkKey _ _ _ _ | exact m_convert _ _ _ | exact m_unsafePointer _ _ _ | exact m_seenAt _ | exact m_runesToString _ | exact m_bytesToString _ | exact m_stringToRunes _ _ | exact m_stringToBytes _ _ | exact m_intToString _ | exact m_complexToComplex _ _ _ _ | exact m_intToFloat _ _ | exact m_intToInt _ _ | exact m_binOp _ _ _ _ | exact m_eqGuard _ _ _ _ _ _ | exact m_movedPointer _ _ _ | exact m_movedNumber _ _ _ | exact m_unsafeAdd _ _ _ | exact m_eqGuardIn _ _ _ _ | exact m_equal _ _ _ | exact m_equalIn _ _ _ _ | exact m_addrMod _ _ _ | exact m_addrCmp _ _ _ | exact m_addrSub _ _ _ | exact m_twoPlaces _ _ | exact m_complexOp _ _ _ _ _ _ | exact m_cquot _ _ _ _ | exact m_ccorr _ _ _ _ _ | exact m_cproduct _ _ _ _ | exact m_cquo _ _ | exact m_cmul _ _ | exact m_csub _ _ | exact m_cadd _ _ | exact m_cconv _ _ _ | exact m_ccmp _ _ _ _ | exact m_carith _ _ _ _ | exact m_floatToInt _ _ _ | exact m_floatToFloat _ _ _ | exact m_unary _ _ | exact m_stringOp _ _ _ | exact m_floatCmp _ _ _ _ | exact m_floatArith _ _ _ _ | exact m_intCmp _ _ _ | exact m_shift _ _ _ _ _ | exact m_intBits _ _ _ _ | exact m_intDiv _ _ _ _ | exact m_intArith _ _ _ _ | exact m_typeAssert _ _ _ _ | exact m_makeFunc _ _ _ | exact m_makeInterface _ _ | exact m_field _ _ _ | exact m_index _ _ _ | exact m_extract _ _ | exact m_makeSlice hR _ _ _ | exact m_buildSlice _ _ | exact m_build _ | exact m_box _ _ | exact m_sliceAt _ _ _ _ _ | exact m_slice _ _ _ _ _ | exact m_sliceBounds _ _ _ _ _ _ | exact m_sliceBound _ _ _ | exact m_indexAt _ _ _ | exact m_fieldAt _ _ _ | exact m_storeAt _ _ _ | exact m_loadAt _ _ | exact m_sureAddr _ | exact m_alloc _ _ _ | exact m_loadBytes _ _ _ | exact m_variablesAt _ _ _ | exact m_fieldPlace _ _ | exact m_partAt _ _ _ | exact m_byteOf _ | exact m_results _ _ | exact m_asAddr _ | exact m_asAgg _ | exact m_asString _ | exact m_asBool _ | exact m_asInt _ | exact m_asIntOf _ | exact m_boundsPanic _ _ _ _ | exact m_runtimePanic _ | exact m_part _ _ _ | exact m_elemOf _ | exact m_newVar _ _ | exact m_newRow _ _ | exact m_storeVar _ _ _ | exact m_loadVar _ _ | exact m_storeCells _ _ _ | exact m_loadCells _ _ | exact m_isAgg _ | exact m_sizeOf _ | exact m_zeroValue _ | exact m_typeStr _ | exact m_globalAddr _ | exact m_cutType _ | exact m_underlying _ | exact m_typeInfo _ | exact m_samePointer _ _ | exact m_sameAddr _ _ | exact m_mayBeOne _ _ | exact m_stringish _ | exact m_markStringish _ | exact m_noView _ | exact m_backFromNumber _ | exact m_behindNumber _ | exact m_asNumber _ _ | exact m_cellsIn _ | exact m_numberAt _ | exact m_viewAt _ | exact m_goPanic _ | exact m_unsupported _ | exact m_stuck _ | exact m_program | exact m_choose _ | exact m_setObj _ _ | exact m_getObj _ | exact m_frozen _ | exact m_freeze _ _ | exact m_shape _ | exact m_newObj _ | exact m_store _ _ _ | exact m_load _ _ | exact m_halt _ | exact m_pure _)
    | with_reducible refine m_map ?_
    | with_reducible refine m_bind ?_ (fun _ => ?_)
    | with_reducible refine m_ite ?_ ?_
    | refine m_forA (fun _ _ => ?_) _ _
    | refine m_forL (fun _ _ => ?_) _ _
    | refine m_forR (fun _ _ => ?_) _ _
    | refine m_mapA (fun _ => ?_) _
    | refine m_foldL (fun _ _ => ?_) _ _
    | split
    | dsimp only)

theorem m_unsafeString (a : Array TypeId) (t : TypeId) (v : Array Value) : M P ok (Builtin.unsafeString_ a t v) := by
  rw [show v = v.toList.toArray from by simp]
  generalize v.toList = l
  rcases l with _ | ⟨x, _ | ⟨y, _ | ⟨z, r⟩⟩⟩ <;> (try cases x) <;> (try cases y)
  all_goals (try (exact trivial))
  all_goals unfold Builtin.unsafeString_
  all_goals (refine m_bind ?_ (fun _ => ?_))
  all_goals (repeat' (first
      | with_reducible (first | assumption | exact m_copy _ _ _ | exact m_append hR _ _ _ | exact m_firstCells _ _ _ | exact m_lenOf _ | exact m_mayShare _ _ _ _ _ | exact m_holdsCells _ _ | exact m_max _ _ _ | exact m_max2 _ _ | exact m_min _ _ _ | exact m_min2 _ _ | exact m_cap _ _ _ | exact m_len _ _ _ | exact m_next _ _ _ | exact m_range _ _ | exact m_makeMap _ _ | exact m_mapUpdate _ _ _ _ | exact m_keyThatStays _ _ | exact m_lookup _ _ _ _ | exact m_findKey _ _ _ | exact m_findAsking _ _ _ _ | exact m_checkKey _ _ _ _ | exact m_convert _ _ _ | exact m_unsafePointer _ _ _ | exact m_seenAt _ | exact m_runesToString _ | exact m_bytesToString _ | exact m_stringToRunes _ _ | exact m_stringToBytes _ _ | exact m_intToString _ | exact m_complexToComplex _ _ _ _ | exact m_intToFloat _ _ | exact m_intToInt _ _ | exact m_binOp _ _ _ _ | exact m_eqGuard _ _ _ _ _ _ | exact m_movedPointer _ _ _ | exact m_movedNumber _ _ _ | exact m_unsafeAdd _ _ _ | exact m_eqGuardIn _ _ _ _ | exact m_equal _ _ _ | exact m_equalIn _ _ _ _ | exact m_addrMod _ _ _ | exact m_addrCmp _ _ _ | exact m_addrSub _ _ _ | exact m_twoPlaces _ _ | exact m_complexOp _ _ _ _ _ _ | exact m_cquot _ _ _ _ | exact m_ccorr _ _ _ _ _ | exact m_cproduct _ _ _ _ | exact m_cquo _ _ | exact m_cmul _ _ | exact m_csub _ _ | exact m_cadd _ _ | exact m_cconv _ _ _ | exact m_ccmp _ _ _ _ | exact m_carith _ _ _ _ | exact m_floatToInt _ _ _ | exact m_floatToFloat _ _ _ | exact m_unary _ _ | exact m_stringOp _ _ _ | exact m_floatCmp _ _ _ _ | exact m_floatArith _ _ _ _ | exact m_intCmp _ _ _ | exact m_shift _ _ _ _ _ | exact m_intBits _ _ _ _ | exact m_intDiv _ _ _ _ | exact m_intArith _ _ _ _ | exact m_typeAssert _ _ _ _ | exact m_makeFunc _ _ _ | exact m_makeInterface _ _ | exact m_field _ _ _ | exact m_index _ _ _ | exact m_extract _ _ | exact m_makeSlice hR _ _ _ | exact m_buildSlice _ _ | exact m_build _ | exact m_box _ _ | exact m_sliceAt _ _ _ _ _ | exact m_slice _ _ _ _ _ | exact m_sliceBounds _ _ _ _ _ _ | exact m_sliceBound _ _ _ | exact m_indexAt _ _ _ | exact m_fieldAt _ _ _ | exact m_storeAt _ _ _ | exact m_loadAt _ _ | exact m_sureAddr _ | exact m_alloc _ _ _ | exact m_loadBytes _ _ _ | exact m_variablesAt _ _ _ | exact m_fieldPlace _ _ | exact m_partAt _ _ _ | exact m_byteOf _ | exact m_results _ _ | exact m_asAddr _ | exact m_asAgg _ | exact m_asString _ | exact m_asBool _ | exact m_asInt _ | exact m_asIntOf _ | exact m_boundsPanic _ _ _ _ | exact m_runtimePanic _ | exact m_part _ _ _ | exact m_elemOf _ | exact m_newVar _ _ | exact m_newRow _ _ | exact m_storeVar _ _ _ | exact m_loadVar _ _ | exact m_storeCells _ _ _ | exact m_loadCells _ _ | exact m_isAgg _ | exact m_sizeOf _ | exact m_zeroValue _ | exact m_typeStr _ | exact m_globalAddr _ | exact m_cutType _ | exact m_underlying _ | exact m_typeInfo _ | exact m_samePointer _ _ | exact m_sameAddr _ _ | exact m_mayBeOne _ _ | exact m_stringish _ | exact m_markStringish _ | exact m_noView _ | exact m_backFromNumber _ | exact m_behindNumber _ | exact m_asNumber _ _ | exact m_cellsIn _ | exact m_numberAt _ | exact m_viewAt _ | exact m_goPanic _ | exact m_unsupported _ | exact m_stuck _ | exact m_program | exact m_choose _ | exact m_setObj _ _ | exact m_getObj _ | exact m_frozen _ | exact m_freeze _ _ | exact m_shape _ | exact m_newObj _ | exact m_store _ _ _ | exact m_load _ _ | exact m_halt _ | exact m_pure _)
      | with_reducible refine m_map ?_
      | with_reducible refine m_bind ?_ (fun _ => ?_)
      | with_reducible refine m_ite ?_ ?_
      | refine m_forA (fun _ _ => ?_) _ _
      | refine m_forL (fun _ _ => ?_) _ _
      | refine m_forR (fun _ _ => ?_) _ _
      | refine m_mapA (fun _ => ?_) _
      | refine m_foldL (fun _ _ => ?_) _ _
      | split
      | dsimp only))

end
end Go.Proofs.Ythpanpedoeghoaa.Lift
