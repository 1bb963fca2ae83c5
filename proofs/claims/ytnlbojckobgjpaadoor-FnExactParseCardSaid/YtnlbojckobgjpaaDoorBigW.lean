/- Wide values in a walk: load, alloc and store by equations, the value a letter. No program in sight. -/
import Derived.Test.YtnlbojckobgjpaaDoorMem
import Derived.Laws.Rows
import Derived.Laws.Tables
import Derived.RegionTactic
namespace Go.Proofs.YtnlbojckobgjpaaDoor
open Go.RowKit
set_option linter.unusedVariables false
section
variable {P : Program} {w w' : World} {ops : Array Oper} {rest : List Oper} {o : Oper} {a : Act} {Q : Exit → Act → World → Prop}
theorem wpList_loadE (hg : o.guard = none) (t : TypeId) (x : Operand) (ho : o.op = .load t x) {p v : Value} (hx : a.eval x = p) (hr : (Instr.loadAt t p).run P w = .ok v w') (h : wpList P ops Q rest (a.put o.dst v) w') : wpList P ops Q (o :: rest) a w := by
  refine wpList_plain hg fun K hK => ?_
  unfold Oper.wp execOp
  simp only [ho, Sem.run_bind, Sem.run_pure, Result.andThen_ok, hx, hr]
  exact hK _ _ h
theorem wpList_allocE (hg : o.guard = none) (t : TypeId) (ho : o.op = .alloc t) {v : Value} (hr : (Instr.alloc t true (.tuple #[])).run P w = .ok v w') (h : wpList P ops Q rest (a.put o.dst v) w') : wpList P ops Q (o :: rest) a w := by
  refine wpList_plain hg fun K hK => ?_
  unfold Oper.wp execOp
  simp only [ho, Sem.run_bind, Sem.run_pure, Result.andThen_ok, hr]
  exact hK _ _ h
theorem wpList_storeE (hg : o.guard = none) (t : TypeId) (x y : Operand) (ho : o.op = .store t x y) {p v : Value} (hx : a.eval x = p) (hy : a.eval y = v) (hr : (Instr.storeAt t p v).run P w = .ok () w') (h : wpList P ops Q rest (a.put o.dst (.tuple #[])) w') : wpList P ops Q (o :: rest) a w := by
  refine wpList_plain hg fun K hK => ?_
  unfold Oper.wp execOp
  simp only [ho, Sem.run_bind, Sem.run_pure, Result.andThen_ok, hx, hy, hr]
  exact hK _ _ h
end
section
variable {P : Program} {w : World} {T : TypeId} {d : TypeDesc} {n : Nat}
theorem loadAt_cells {b o : Nat} {cs : List Value} (hu : P.underlying T = some d) (hd : (match d with | .struct _ | .array _ _ => true | _ => false) = true) (hi : (P.info? T).map (·.size) = some cs.length) (h : ∀ j v, cs[j]? = some v → w.cell? ⟨b, o + j, none⟩ = some v) :
    (Instr.loadAt T (.pointer (some ⟨b, o, none⟩))).run P w = .ok (.agg ⟨cs⟩) w := by
  have hl : (loadCells ⟨b, o, none⟩ cs.length).run P w = .ok cs.toArray w :=
    run_loadCells_list (P := P) w ⟨b, o, none⟩ cs (fun j v hv => by
      have hadd : (⟨b, o, none⟩ : Addr).add j = ⟨b, o + j, none⟩ := by unfold Addr.add; split <;> simp_all
      rw [hadd]; exact h j v hv)
  cases hq : P.info? T with
  | none => simp [hq] at hi
  | some i =>
    have hs : i.size = cs.length := by simpa [hq] using hi
    have hagg : (isAgg T).run P w = .ok true w := by
      unfold isAgg
      rw [Sem.run_bind, run_underlying hu w]
      cases d <;> simp_all
    simp [Instr.loadAt, Instr.sureAddr, loadVar, Sem.run_bind, hagg, sizeOf, typeInfo, hq, hs, hl]
/-- A wide element is read, a box is laid for it and filled. -/
theorem big_box {b o : Nat} {cs : List Value} (zs : Array Value) (hu : P.underlying T = some d) (hd : (match d with | .struct _ | .array _ _ => true | _ => false) = true) (hi : (P.info? T).map (·.size) = some cs.length)
    (hz : ∀ wx : World, (Instr.alloc T true (.tuple #[])).run P wx = .ok (.pointer (some ⟨wx.heap.size, 0, none⟩)) (wx.alloc (.cells zs T))) (hzs : zs.size = cs.length) (h1 : cs.all (·.oneCell') = true) (h : ∀ j v, cs[j]? = some v → w.cell? ⟨b, o + j, none⟩ = some v) :
    ∃ (w1 w2 : World) (V : Value), V = .agg ⟨cs⟩ ∧ (Instr.loadAt T (.pointer (some ⟨b, o, none⟩))).run P w = .ok V w ∧ (Instr.alloc T true (.tuple #[])).run P w = .ok (.pointer (some ⟨w.heap.size, 0, none⟩)) w1 ∧
      (Instr.storeAt T (.pointer (some ⟨w.heap.size, 0, none⟩)) V).run P w1 = .ok () w2 ∧ (Instr.loadAt T (.pointer (some ⟨w.heap.size, 0, none⟩))).run P w2 = .ok V w2 ∧ w2.heap.size = w.heap.size + 1 ∧ Below w.heap.size w w2 ∧ Own w2 w.heap.size T cs := by
  have ho1 : Own (w.alloc (.cells zs T)) w.heap.size T zs.toList := Own.new w T zs
  have hst : (storeVar T ⟨w.heap.size, 0, none⟩ (.agg ⟨cs⟩)).run P (w.alloc (.cells zs T)) = .ok () ((w.alloc (.cells zs T)).setRow w.heap.size ⟨cs⟩) :=
    run_storeVar_row (P := P) _ w.heap.size T T zs ⟨cs⟩ ho1 (by simpa using hi) (by simpa using hzs) (by simpa using h1)
  have ho2 : Own ((w.alloc (.cells zs T)).setRow w.heap.size ⟨cs⟩) w.heap.size T cs := by
    have := ho1
    unfold Own at this ⊢
    exact setRow_heap _ _ _ _ _ _ this
  refine ⟨_, (w.alloc (.cells zs T)).setRow w.heap.size ⟨cs⟩, _, rfl, loadAt_cells hu hd hi h, hz w, ?_, ?_, ?_, ?_, ho2⟩
  · simp [Instr.storeAt, Instr.sureAddr, hst]
  · exact loadAt_cells (o := 0) hu hd hi (fun j v hv => by rw [Nat.zero_add, ho2.cell]; exact hv)
  · simp [World.setRow]
  · have hb : Below w.heap.size w (w.alloc (.cells zs T)) := (Below.refl _ _).alloc (Nat.le_refl _) _
    exact ⟨rfl, rfl, rfl, by simp [World.setRow], fun k hk => by
      have : ((w.alloc (.cells zs T)).setRow w.heap.size ⟨cs⟩).heap[k]? = (w.alloc (.cells zs T)).heap[k]? := by
        simp [World.setRow, Array.getElem?_modify]
        intro e; omega
      exact this.trans (hb.block k hk)⟩
end
end Go.Proofs.YtnlbojckobgjpaaDoor
