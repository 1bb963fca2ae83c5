/- MADE BY PROGRAM (genpareq.py). Programs as Parse leaves them: the law's eqProgram. -/
import Derived.Test.YtnlbojckobgjpaaDoorParM
import Derived.Test.YtnlbojckobgjpaaDoorRowsP
import Derived.Test.YtnlbojckobgjpaaDoorInts
import Derived.BigQuiet
import Derived.Deep.Cut
import Derived.Deep.RegionHeld3
namespace Go.Proofs.YtnlbojckobgjpaaDoor
open Go.RowKit Go.Lib
set_option linter.unusedVariables false
set_option linter.unusedSimpArgs false
set_option maxRecDepth 100000
theorem run_loadF {P : Program} {oi : Oper} {ev : Operand → Value} {t : TypeId} {x : Operand} {p v : Value} {w w' : World} (ho : oi.op = .load t x) (hx : ev x = p) (h : (Instr.loadAt t p).run P w = .ok v w') : (execOp ev oi).run P w = .ok (.value v) w' := by
  unfold execOp
  simp only [ho, hx, Sem.run_bind, h, Result.andThen_ok, Sem.run_pure]
def nodeFP (lo : Nat) (w : World) (ys : List Value) (x : ENode) : Prop := ∃ A c, ys = [.int .i64 x.1, str x.2.1, .int .i64 x.2.2.1, .slice A x.2.2.2.length c] ∧ RS w 1 A x.2.2.2.length c (ints x.2.2.2) ∧ lowA lo A
def nodeF : Elem ENode where
  sz := 4
  P := nodeFP
  len := by rintro lo w ys x ⟨A, c, rfl, _⟩; rfl
  one := by rintro lo w ys x ⟨A, c, rfl, _⟩; rfl
  keep := by rintro lo w w' ys x ⟨A, c, rfl, h2, h3⟩ hu; exact ⟨A, c, rfl, h2.up h3 hu, h3⟩
  mono := by rintro lo lo' w ys x ⟨A, c, rfl, h2, h3⟩ hl; exact ⟨A, c, rfl, h2, fun y hy => Nat.le_trans hl (h3 y hy)⟩
def assFP (lo : Nat) (w : World) (ys : List Value) (x : EAssign) : Prop := ys = [str x.1, .int .i64 x.2]
def assF : Elem EAssign where
  sz := 2
  P := assFP
  len := by rintro lo w ys x rfl; rfl
  one := by rintro lo w ys x rfl; rfl
  keep := by rintro lo w w' ys x h hu; exact h
  mono := by rintro lo lo' w ys x h hl; exact h
set_option maxHeartbeats 4000000 in
theorem L_eqAssignmentF {lo lo' : Nat} {ys ys' : List Value} {x : EAssign} (w : World) (h : assF.P lo w ys x) (h' : assF.P lo' w ys' x) :
    Calls Tryd.prog 33 #[.agg ⟨ys⟩, .agg ⟨ys'⟩] w fun e w' => e = .returned (.bool true) ∧ Below w.heap.size w w' := by
  obtain ⟨name, num⟩ := x
  obtain rfl : ys = _ := h
  obtain rfl : ys' = _ := h'
  have e1 : (name != name) = false := by simp
  have e2 : (num != num) = false := by simp
  go_enter Tryd.func33, Tryd.ntmps33
  go_wp2_with fail
  go_ret
  exact ⟨rfl, (by repeat (first | (with_reducible exact Below.refl _ _) | (with_reducible assumption) | ((with_reducible refine Below.alloc ?_ ?_ _); rotate_left; (first | omega | (simp <;> omega))) | ((with_reducible refine Below.setCell ?_ ?_ _); rotate_left; (first | omega | (simp <;> omega))) | (with_reducible refine below_drewN ?_ _) | (with_reducible refine Below.drew ?_) | ((with_reducible refine Below.step (by assumption) ?_ ?_); rotate_left; (first | omega | (simp <;> omega)))))⟩
set_option maxHeartbeats 4000000 in
theorem L_eqNodeF {lo lo' : Nat} {ys ys' : List Value} {x : ENode} (w : World) (h : nodeF.P lo w ys x) (h' : nodeF.P lo' w ys' x) :
    Calls Tryd.prog 32 #[.agg ⟨ys⟩, .agg ⟨ys'⟩] w fun e w' => e = .returned (.bool true) ∧ Below w.heap.size w w' := by
  obtain ⟨op, name, num, l⟩ := x
  obtain ⟨A, c, rfl, hr, _⟩ := h
  obtain ⟨A2, c2, rfl, hr2, _⟩ := h'
  (try dsimp only at hr hr2)
  have HC : Hid (∀ wx, Below w.heap.size w wx → Calls Tryd.prog 52 #[.slice A l.length c, .slice A2 l.length c2] wx fun e w' => e = .returned (.bool true) ∧ Below wx.heap.size wx w') := Lib.hid (fun wx hb => by have := L_eqIntS A A2 c c2 l l wx (RS.step hb hr) (RS.step hb hr2); simpa using this)
  have e1 : (name != name) = false := by simp
  have e2 : (num != num) = false := by simp
  have e3 : (op != op) = false := by simp
  clear hr hr2
  go_enter Tryd.func32, Tryd.ntmps32
  go_wp2_with (first | (go_at_call 52; (refine (HC.out _ (by repeat (first | (with_reducible exact Below.refl _ _) | (with_reducible assumption) | ((with_reducible refine Below.alloc ?_ ?_ _); rotate_left; (first | omega | (simp <;> omega))) | ((with_reducible refine Below.setCell ?_ ?_ _); rotate_left; (first | omega | (simp <;> omega))) | (with_reducible refine below_drewN ?_ _) | (with_reducible refine Below.drew ?_) | ((with_reducible refine Below.step (by assumption) ?_ ?_); rotate_left; (first | omega | (simp <;> omega)))))).mono ?_); rintro e wA ⟨rfl, hbA⟩) | fail)
  go_ret
  exact ⟨rfl, (by repeat (first | (with_reducible exact Below.refl _ _) | (with_reducible assumption) | ((with_reducible refine Below.alloc ?_ ?_ _); rotate_left; (first | omega | (simp <;> omega))) | ((with_reducible refine Below.setCell ?_ ?_ _); rotate_left; (first | omega | (simp <;> omega))) | (with_reducible refine below_drewN ?_ _) | (with_reducible refine Below.drew ?_) | ((with_reducible refine Below.step (by assumption) ?_ ?_); rotate_left; (first | omega | (simp <;> omega)))))⟩
set_option maxHeartbeats 8000000 in
theorem L_eqNodeSF {lo lo' : Nat} {A A2 : Option Addr} {c c2 : Nat} {l : List ENode} (w : World) (h : RowL nodeF lo w (.slice A l.length c) l) (h' : RowL nodeF lo' w (.slice A2 l.length c2) l) :
    Calls Tryd.prog 16 #[.slice A l.length c, .slice A2 l.length c2] w fun e w' => e = .returned (.bool true) ∧ Below w.heap.size w w' := by
  obtain ⟨A0, c0, e0, hlc, hcm⟩ := h.slice
  injection e0 with e1 e2 e3
  subst e1; subst e3
  unfold maxLen at hcm
  have H0 := Lib.hid h
  have H1 := Lib.hid h'
  have hne : ((l.length : Int) != (l.length : Int)) = false := by simp
  clear h h' e2
  go_enter Tryd.func16, Tryd.ntmps16
  go_wp2_with fail
  go_loopw [5] (fun i wr => ∃ k : Nat, k ≤ l.length ∧ i = .int .i64 k ∧ Below w.heap.size w wr) (fun i _ => l.length - (RowKit.intOf i).toNat)
  case atStart => exact ⟨0, Nat.zero_le _, rfl, (by repeat (first | (with_reducible exact Below.refl _ _) | (with_reducible assumption) | ((with_reducible refine Below.alloc ?_ ?_ _); rotate_left; (first | omega | (simp <;> omega))) | ((with_reducible refine Below.setCell ?_ ?_ _); rotate_left; (first | omega | (simp <;> omega))) | (with_reducible refine below_drewN ?_ _) | (with_reducible refine Below.drew ?_) | ((with_reducible refine Below.step (by assumption) ?_ ?_); rotate_left; (first | omega | (simp <;> omega)))))⟩
  case round =>
    obtain ⟨k, hk, rfl, hb⟩ := hrel
    obtain ⟨wo, rfl⟩ : ∃ wo, wo = wr := ⟨_, rfl⟩
    have hz := hb.size
    have HB := Lib.hid hb
    clear hb
    by_cases hlt : k < l.length
    · obtain ⟨b, o, ys, rfl, hbh, hyl, hp, hcell⟩ := (H0.out.step HB.out).at_ hlt
      obtain ⟨b', o', ys', rfl, hbh', hyl', hp', hcell'⟩ := (H1.out.step HB.out).at_ hlt
      have HLD : Hid (∀ wx, (∀ o, wx.cell? ⟨b, o, none⟩ = wo.cell? ⟨b, o, none⟩) → (Instr.loadAt 73 (.pointer (some ⟨b, o + k * 4, none⟩))).run Tryd.prog wx = .ok (.agg ⟨ys⟩) wx) := Lib.hid (fun wx hx => loadAt_cells (P := Tryd.prog) Tryd.underlying73 rfl (by rw [hyl]; kernel_rfl) (fun j v hv => by rw [hx]; exact hcell j v hv))
      have HLD' : Hid (∀ wx, (∀ o, wx.cell? ⟨b', o, none⟩ = wo.cell? ⟨b', o, none⟩) → (Instr.loadAt 73 (.pointer (some ⟨b', o' + k * 4, none⟩))).run Tryd.prog wx = .ok (.agg ⟨ys'⟩) wx) := Lib.hid (fun wx hx => loadAt_cells (P := Tryd.prog) Tryd.underlying73 rfl (by rw [hyl']; kernel_rfl) (fun j v hv => by rw [hx]; exact hcell' j v hv))
      have HC : Hid (∀ wx, Below wo.heap.size wo wx → Calls Tryd.prog 32 #[.agg ⟨ys⟩, .agg ⟨ys'⟩] wx fun e w' => e = .returned (.bool true) ∧ Below wx.heap.size wx w') := Lib.hid (fun wx hb => L_eqNodeF wx (nodeF.keep hp (Up.of_below hb)) (nodeF.keep hp' (Up.of_below hb)))
      have i1 : (k : Int) < l.length := by omega
      have i2 : (0 : Int) ≤ k := by omega
      clear hcell hp hyl hcell' hp' hyl'
      generalize Value.agg ⟨ys⟩ = V at *
      generalize Value.agg ⟨ys'⟩ = V' at *
      go_upto_region 6 with fail
      refine wp_region_held_drew (S := fun w' => (Instr.loadAt 73 (.pointer (some ⟨b, o + k * 4, none⟩))).run Tryd.prog w' = .ok V w' ∧ (Instr.loadAt 73 (.pointer (some ⟨b', o' + k * 4, none⟩))).run Tryd.prog w' = .ok V' w') (by kernel_rfl) ?_ (fun hHeld1 => ?_)
      · exact ⟨HLD.out _ (fun _ => rfl), HLD'.out _ (fun _ => rfl)⟩
      (refine wpAnyH_take (i := 0) (v := ?_) rfl (by kernel_rfl) (by kernel_rfl) (by kernel_rfl) (fun _ _ _ h => h) (Or.inl ⟨by rfl, ?_⟩) (by assumption) ?_; rotate_left; focus (intro w hSw; (try dsimp only at hSw); go_simp; try with_reducible rfl)); (try simp only [List.getElem_toArray, List.getElem_cons_succ, List.getElem_cons_zero, Act.put, List.setIfInBounds_toArray, List.set_cons_zero, List.set_cons_succ])
      (refine wpAnyH_take (i := 1) (v := ?_) rfl (by kernel_rfl) (by kernel_rfl) (by kernel_rfl) (fun _ _ _ h => h) (Or.inl ⟨by rfl, ?_⟩) (by assumption) ?_; rotate_left; focus (intro w hSw; (try dsimp only at hSw); go_simp; try with_reducible rfl)); (try simp only [List.getElem_toArray, List.getElem_cons_succ, List.getElem_cons_zero, Act.put, List.setIfInBounds_toArray, List.set_cons_zero, List.set_cons_succ])
      (refine wpAnyH_take (i := 2) (v := ?_) rfl (by kernel_rfl) (by kernel_rfl) (by kernel_rfl) (fun _ _ _ h => h) (Or.inl ⟨by rfl, ?_⟩) (by assumption) ?_; rotate_left; focus (intro w hSw; (try dsimp only at hSw); go_simp; try with_reducible rfl)); (try simp only [List.getElem_toArray, List.getElem_cons_succ, List.getElem_cons_zero, Act.put, List.setIfInBounds_toArray, List.set_cons_zero, List.set_cons_succ])
      (refine wpAnyH_take (i := 3) (v := V) rfl (by kernel_rfl) (by kernel_rfl) (by kernel_rfl) (fun _ _ _ h => h) (Or.inl ⟨by rfl, fun w hSw => run_loadF rfl rfl hSw.1⟩) (by assumption) ?_); (try simp only [List.getElem_toArray, List.getElem_cons_succ, List.getElem_cons_zero, Act.put, List.setIfInBounds_toArray, List.set_cons_zero, List.set_cons_succ])
      (refine wpAnyH_take (i := 4) (v := ?_) rfl (by kernel_rfl) (by kernel_rfl) (by kernel_rfl) (fun _ _ _ h => h) (Or.inl ⟨by rfl, ?_⟩) (by assumption) ?_; rotate_left; focus (intro w hSw; (try dsimp only at hSw); go_simp; try with_reducible rfl)); (try simp only [List.getElem_toArray, List.getElem_cons_succ, List.getElem_cons_zero, Act.put, List.setIfInBounds_toArray, List.set_cons_zero, List.set_cons_succ])
      (refine wpAnyH_take (i := 5) (v := ?_) rfl (by kernel_rfl) (by kernel_rfl) (by kernel_rfl) (fun _ _ _ h => h) (Or.inl ⟨by rfl, ?_⟩) (by assumption) ?_; rotate_left; focus (intro w hSw; (try dsimp only at hSw); go_simp; try with_reducible rfl)); (try simp only [List.getElem_toArray, List.getElem_cons_succ, List.getElem_cons_zero, Act.put, List.setIfInBounds_toArray, List.set_cons_zero, List.set_cons_succ])
      (refine wpAnyH_take (i := 6) (v := ?_) rfl (by kernel_rfl) (by kernel_rfl) (by kernel_rfl) (fun _ _ _ h => h) (Or.inl ⟨by rfl, ?_⟩) (by assumption) ?_; rotate_left; focus (intro w hSw; (try dsimp only at hSw); go_simp; try with_reducible rfl)); (try simp only [List.getElem_toArray, List.getElem_cons_succ, List.getElem_cons_zero, Act.put, List.setIfInBounds_toArray, List.set_cons_zero, List.set_cons_succ])
      (refine wpAnyH_take (i := 7) (v := V') rfl (by kernel_rfl) (by kernel_rfl) (by kernel_rfl) (fun _ _ _ h => h) (Or.inl ⟨by rfl, fun w hSw => run_loadF rfl rfl hSw.2⟩) (by assumption) ?_); (try simp only [List.getElem_toArray, List.getElem_cons_succ, List.getElem_cons_zero, Act.put, List.setIfInBounds_toArray, List.set_cons_zero, List.set_cons_succ])
      refine wpAnyH_ready (rs := [8]) (by kernel_rfl) (by simp) ?_
      refine AllReadyH.cons rfl (fun K hK => ?_) AllReadyH.nil
      go_simp
      (go_at_call 32; (refine (HC.out _ (by repeat (first | (with_reducible exact Below.refl _ _) | (with_reducible assumption) | ((with_reducible refine Below.alloc ?_ ?_ _); rotate_left; (first | omega | (simp <;> omega))) | ((with_reducible refine Below.setCell ?_ ?_ _); rotate_left; (first | omega | (simp <;> omega))) | (with_reducible refine below_drewN ?_ _) | (with_reducible refine Below.drew ?_) | ((with_reducible refine Below.step (by assumption) ?_ ?_); rotate_left; (first | omega | (simp <;> omega)))))).mono ?_); rintro e wA ⟨rfl, hbA⟩)
      (try go_wp2_with fail)
      refine hK.out _ _ ?_ (fun hHeld2 => ?_)
      · exact ⟨HLD.out _ (fun p => hbA.cell (p := ⟨b, p, none⟩) (by simpa using hbh)), HLD'.out _ (fun p => hbA.cell (p := ⟨b', p, none⟩) (by simpa using hbh'))⟩
      have HB2 : Hid (Below w.heap.size w wA) := Lib.hid (Below.step hbA (by repeat (first | (with_reducible exact Below.refl _ _) | (with_reducible exact HB.out) | (with_reducible assumption) | ((with_reducible refine Below.alloc ?_ ?_ _); rotate_left; (first | omega | (simp <;> omega))) | ((with_reducible refine Below.setCell ?_ ?_ _); rotate_left; (first | omega | (simp <;> omega))) | (with_reducible refine below_drewN ?_ _) | (with_reducible refine Below.drew ?_) | ((with_reducible refine Below.step (by assumption) ?_ ?_); rotate_left; (first | omega | (simp <;> omega))))) (by first | omega | (simp <;> omega)))
      clear hK K hHeld1 hbA
      (try simp only [List.getElem_toArray, List.getElem_cons_succ, List.getElem_cons_zero, Act.put, List.setIfInBounds_toArray, List.set_cons_zero, List.set_cons_succ])
      (refine wpAnyH_take (i := 9) (v := ?_) rfl (by kernel_rfl) (by kernel_rfl) (by kernel_rfl) (fun _ _ _ h => h) (Or.inl ⟨by rfl, ?_⟩) (by assumption) ?_; rotate_left; focus (intro w hSw; (try dsimp only at hSw); go_simp; try with_reducible rfl)); (try simp only [List.getElem_toArray, List.getElem_cons_succ, List.getElem_cons_zero, Act.put, List.setIfInBounds_toArray, List.set_cons_zero, List.set_cons_succ])
      refine wpAnyH_done (by kernel_rfl) ?_ _
      all_goals
        go_wp2_with fail
        go_roundw
        case rel => exact ⟨k + 1, by omega, by go_num, (by repeat (first | (with_reducible exact Below.refl _ _) | (with_reducible exact HB2.out) | (with_reducible assumption) | ((with_reducible refine Below.alloc ?_ ?_ _); rotate_left; (first | omega | (simp <;> omega))) | ((with_reducible refine Below.setCell ?_ ?_ _); rotate_left; (first | omega | (simp <;> omega))) | (with_reducible refine below_drewN ?_ _) | (with_reducible refine Below.drew ?_) | ((with_reducible refine Below.step (by assumption) ?_ ?_); rotate_left; (first | omega | (simp <;> omega)))))⟩
        case measure => simp [RowKit.intOf] <;> omega
    · obtain rfl : k = l.length := by omega
      go_wp2_with fail
      go_ret
      exact ⟨rfl, HB.out⟩
set_option maxHeartbeats 8000000 in
theorem L_eqAssignmentSF {lo lo' : Nat} {A A2 : Option Addr} {c c2 : Nat} {l : List EAssign} (w : World) (h : RowL assF lo w (.slice A l.length c) l) (h' : RowL assF lo' w (.slice A2 l.length c2) l) :
    Calls Tryd.prog 17 #[.slice A l.length c, .slice A2 l.length c2] w fun e w' => e = .returned (.bool true) ∧ Below w.heap.size w w' := by
  obtain ⟨A0, c0, e0, hlc, hcm⟩ := h.slice
  injection e0 with e1 e2 e3
  subst e1; subst e3
  unfold maxLen at hcm
  have H0 := Lib.hid h
  have H1 := Lib.hid h'
  have hne : ((l.length : Int) != (l.length : Int)) = false := by simp
  clear h h' e2
  go_enter Tryd.func17, Tryd.ntmps17
  go_wp2_with fail
  go_loopw [5] (fun i wr => ∃ k : Nat, k ≤ l.length ∧ i = .int .i64 k ∧ Below w.heap.size w wr) (fun i _ => l.length - (RowKit.intOf i).toNat)
  case atStart => exact ⟨0, Nat.zero_le _, rfl, (by repeat (first | (with_reducible exact Below.refl _ _) | (with_reducible assumption) | ((with_reducible refine Below.alloc ?_ ?_ _); rotate_left; (first | omega | (simp <;> omega))) | ((with_reducible refine Below.setCell ?_ ?_ _); rotate_left; (first | omega | (simp <;> omega))) | (with_reducible refine below_drewN ?_ _) | (with_reducible refine Below.drew ?_) | ((with_reducible refine Below.step (by assumption) ?_ ?_); rotate_left; (first | omega | (simp <;> omega)))))⟩
  case round =>
    obtain ⟨k, hk, rfl, hb⟩ := hrel
    obtain ⟨wo, rfl⟩ : ∃ wo, wo = wr := ⟨_, rfl⟩
    have hz := hb.size
    have HB := Lib.hid hb
    clear hb
    by_cases hlt : k < l.length
    · obtain ⟨b, o, ys, rfl, hbh, hyl, hp, hcell⟩ := (H0.out.step HB.out).at_ hlt
      obtain ⟨b', o', ys', rfl, hbh', hyl', hp', hcell'⟩ := (H1.out.step HB.out).at_ hlt
      have HLD : Hid (∀ wx, (∀ o, wx.cell? ⟨b, o, none⟩ = wo.cell? ⟨b, o, none⟩) → (Instr.loadAt 43 (.pointer (some ⟨b, o + k * 2, none⟩))).run Tryd.prog wx = .ok (.agg ⟨ys⟩) wx) := Lib.hid (fun wx hx => loadAt_cells (P := Tryd.prog) Tryd.underlying43 rfl (by rw [hyl]; kernel_rfl) (fun j v hv => by rw [hx]; exact hcell j v hv))
      have HLD' : Hid (∀ wx, (∀ o, wx.cell? ⟨b', o, none⟩ = wo.cell? ⟨b', o, none⟩) → (Instr.loadAt 43 (.pointer (some ⟨b', o' + k * 2, none⟩))).run Tryd.prog wx = .ok (.agg ⟨ys'⟩) wx) := Lib.hid (fun wx hx => loadAt_cells (P := Tryd.prog) Tryd.underlying43 rfl (by rw [hyl']; kernel_rfl) (fun j v hv => by rw [hx]; exact hcell' j v hv))
      have HC : Hid (∀ wx, Below wo.heap.size wo wx → Calls Tryd.prog 33 #[.agg ⟨ys⟩, .agg ⟨ys'⟩] wx fun e w' => e = .returned (.bool true) ∧ Below wx.heap.size wx w') := Lib.hid (fun wx hb => L_eqAssignmentF wx (assF.keep hp (Up.of_below hb)) (assF.keep hp' (Up.of_below hb)))
      have i1 : (k : Int) < l.length := by omega
      have i2 : (0 : Int) ≤ k := by omega
      clear hcell hp hyl hcell' hp' hyl'
      generalize Value.agg ⟨ys⟩ = V at *
      generalize Value.agg ⟨ys'⟩ = V' at *
      go_upto_region 6 with fail
      refine wp_region_held_drew (S := fun w' => (Instr.loadAt 43 (.pointer (some ⟨b, o + k * 2, none⟩))).run Tryd.prog w' = .ok V w' ∧ (Instr.loadAt 43 (.pointer (some ⟨b', o' + k * 2, none⟩))).run Tryd.prog w' = .ok V' w') (by kernel_rfl) ?_ (fun hHeld1 => ?_)
      · exact ⟨HLD.out _ (fun _ => rfl), HLD'.out _ (fun _ => rfl)⟩
      (refine wpAnyH_take (i := 0) (v := ?_) rfl (by kernel_rfl) (by kernel_rfl) (by kernel_rfl) (fun _ _ _ h => h) (Or.inl ⟨by rfl, ?_⟩) (by assumption) ?_; rotate_left; focus (intro w hSw; (try dsimp only at hSw); go_simp; try with_reducible rfl)); (try simp only [List.getElem_toArray, List.getElem_cons_succ, List.getElem_cons_zero, Act.put, List.setIfInBounds_toArray, List.set_cons_zero, List.set_cons_succ])
      (refine wpAnyH_take (i := 1) (v := ?_) rfl (by kernel_rfl) (by kernel_rfl) (by kernel_rfl) (fun _ _ _ h => h) (Or.inl ⟨by rfl, ?_⟩) (by assumption) ?_; rotate_left; focus (intro w hSw; (try dsimp only at hSw); go_simp; try with_reducible rfl)); (try simp only [List.getElem_toArray, List.getElem_cons_succ, List.getElem_cons_zero, Act.put, List.setIfInBounds_toArray, List.set_cons_zero, List.set_cons_succ])
      (refine wpAnyH_take (i := 2) (v := ?_) rfl (by kernel_rfl) (by kernel_rfl) (by kernel_rfl) (fun _ _ _ h => h) (Or.inl ⟨by rfl, ?_⟩) (by assumption) ?_; rotate_left; focus (intro w hSw; (try dsimp only at hSw); go_simp; try with_reducible rfl)); (try simp only [List.getElem_toArray, List.getElem_cons_succ, List.getElem_cons_zero, Act.put, List.setIfInBounds_toArray, List.set_cons_zero, List.set_cons_succ])
      (refine wpAnyH_take (i := 3) (v := V) rfl (by kernel_rfl) (by kernel_rfl) (by kernel_rfl) (fun _ _ _ h => h) (Or.inl ⟨by rfl, fun w hSw => run_loadF rfl rfl hSw.1⟩) (by assumption) ?_); (try simp only [List.getElem_toArray, List.getElem_cons_succ, List.getElem_cons_zero, Act.put, List.setIfInBounds_toArray, List.set_cons_zero, List.set_cons_succ])
      (refine wpAnyH_take (i := 4) (v := ?_) rfl (by kernel_rfl) (by kernel_rfl) (by kernel_rfl) (fun _ _ _ h => h) (Or.inl ⟨by rfl, ?_⟩) (by assumption) ?_; rotate_left; focus (intro w hSw; (try dsimp only at hSw); go_simp; try with_reducible rfl)); (try simp only [List.getElem_toArray, List.getElem_cons_succ, List.getElem_cons_zero, Act.put, List.setIfInBounds_toArray, List.set_cons_zero, List.set_cons_succ])
      (refine wpAnyH_take (i := 5) (v := ?_) rfl (by kernel_rfl) (by kernel_rfl) (by kernel_rfl) (fun _ _ _ h => h) (Or.inl ⟨by rfl, ?_⟩) (by assumption) ?_; rotate_left; focus (intro w hSw; (try dsimp only at hSw); go_simp; try with_reducible rfl)); (try simp only [List.getElem_toArray, List.getElem_cons_succ, List.getElem_cons_zero, Act.put, List.setIfInBounds_toArray, List.set_cons_zero, List.set_cons_succ])
      (refine wpAnyH_take (i := 6) (v := ?_) rfl (by kernel_rfl) (by kernel_rfl) (by kernel_rfl) (fun _ _ _ h => h) (Or.inl ⟨by rfl, ?_⟩) (by assumption) ?_; rotate_left; focus (intro w hSw; (try dsimp only at hSw); go_simp; try with_reducible rfl)); (try simp only [List.getElem_toArray, List.getElem_cons_succ, List.getElem_cons_zero, Act.put, List.setIfInBounds_toArray, List.set_cons_zero, List.set_cons_succ])
      (refine wpAnyH_take (i := 7) (v := V') rfl (by kernel_rfl) (by kernel_rfl) (by kernel_rfl) (fun _ _ _ h => h) (Or.inl ⟨by rfl, fun w hSw => run_loadF rfl rfl hSw.2⟩) (by assumption) ?_); (try simp only [List.getElem_toArray, List.getElem_cons_succ, List.getElem_cons_zero, Act.put, List.setIfInBounds_toArray, List.set_cons_zero, List.set_cons_succ])
      refine wpAnyH_ready (rs := [8]) (by kernel_rfl) (by simp) ?_
      refine AllReadyH.cons rfl (fun K hK => ?_) AllReadyH.nil
      go_simp
      (go_at_call 33; (refine (HC.out _ (by repeat (first | (with_reducible exact Below.refl _ _) | (with_reducible assumption) | ((with_reducible refine Below.alloc ?_ ?_ _); rotate_left; (first | omega | (simp <;> omega))) | ((with_reducible refine Below.setCell ?_ ?_ _); rotate_left; (first | omega | (simp <;> omega))) | (with_reducible refine below_drewN ?_ _) | (with_reducible refine Below.drew ?_) | ((with_reducible refine Below.step (by assumption) ?_ ?_); rotate_left; (first | omega | (simp <;> omega)))))).mono ?_); rintro e wA ⟨rfl, hbA⟩)
      (try go_wp2_with fail)
      refine hK.out _ _ ?_ (fun hHeld2 => ?_)
      · exact ⟨HLD.out _ (fun p => hbA.cell (p := ⟨b, p, none⟩) (by simpa using hbh)), HLD'.out _ (fun p => hbA.cell (p := ⟨b', p, none⟩) (by simpa using hbh'))⟩
      have HB2 : Hid (Below w.heap.size w wA) := Lib.hid (Below.step hbA (by repeat (first | (with_reducible exact Below.refl _ _) | (with_reducible exact HB.out) | (with_reducible assumption) | ((with_reducible refine Below.alloc ?_ ?_ _); rotate_left; (first | omega | (simp <;> omega))) | ((with_reducible refine Below.setCell ?_ ?_ _); rotate_left; (first | omega | (simp <;> omega))) | (with_reducible refine below_drewN ?_ _) | (with_reducible refine Below.drew ?_) | ((with_reducible refine Below.step (by assumption) ?_ ?_); rotate_left; (first | omega | (simp <;> omega))))) (by first | omega | (simp <;> omega)))
      clear hK K hHeld1 hbA
      (try simp only [List.getElem_toArray, List.getElem_cons_succ, List.getElem_cons_zero, Act.put, List.setIfInBounds_toArray, List.set_cons_zero, List.set_cons_succ])
      (refine wpAnyH_take (i := 9) (v := ?_) rfl (by kernel_rfl) (by kernel_rfl) (by kernel_rfl) (fun _ _ _ h => h) (Or.inl ⟨by rfl, ?_⟩) (by assumption) ?_; rotate_left; focus (intro w hSw; (try dsimp only at hSw); go_simp; try with_reducible rfl)); (try simp only [List.getElem_toArray, List.getElem_cons_succ, List.getElem_cons_zero, Act.put, List.setIfInBounds_toArray, List.set_cons_zero, List.set_cons_succ])
      refine wpAnyH_done (by kernel_rfl) ?_ _
      all_goals
        go_wp2_with fail
        go_roundw
        case rel => exact ⟨k + 1, by omega, by go_num, (by repeat (first | (with_reducible exact Below.refl _ _) | (with_reducible exact HB2.out) | (with_reducible assumption) | ((with_reducible refine Below.alloc ?_ ?_ _); rotate_left; (first | omega | (simp <;> omega))) | ((with_reducible refine Below.setCell ?_ ?_ _); rotate_left; (first | omega | (simp <;> omega))) | (with_reducible refine below_drewN ?_ _) | (with_reducible refine Below.drew ?_) | ((with_reducible refine Below.step (by assumption) ?_ ?_); rotate_left; (first | omega | (simp <;> omega)))))⟩
        case measure => simp [RowKit.intOf] <;> omega
    · obtain rfl : k = l.length := by omega
      go_wp2_with fail
      go_ret
      exact ⟨rfl, HB.out⟩
theorem rAss_part {l : List EAssign} {i : Nat} (hi : i < l.length) : ((rAss l).drop (i * 2)).take 2 = [str l[i].1, .int .i64 l[i].2] := by
  refine List.ext_getElem? fun j => ?_
  obtain ⟨h0, h1⟩ := rAss_at hi
  rcases j with _ | _ | j
  · rw [List.getElem?_take_of_lt (by omega), List.getElem?_drop]; simpa using h0
  · rw [List.getElem?_take_of_lt (by omega), List.getElem?_drop]; simpa using h1
  · rw [List.getElem?_eq_none (by rw [List.length_take]; omega), List.getElem?_eq_none (by simp)]
/-- The rows of a program, read. -/
theorem ProgM.rows {w : World} {base : Nat} {NA : Option Addr} {nc : Nat} {ns : List ENode} {AA : Option Addr} {ac : Nat} {as_ : List EAssign} (h : ProgM w base NA nc ns AA ac as_) : RowL nodeF 0 w (.slice NA ns.length nc) ns ∧ RowL assF 0 w (.slice AA as_.length ac) as_ := by
  obtain ⟨h1, ⟨cs, hg, hn, hp⟩, h3, h4, h5⟩ := h
  refine ⟨⟨NA, nc, cs, rfl, hg.rs, fun _ _ => Nat.zero_le _, fun i hi => ?_⟩, ⟨AA, ac, rAss as_, rfl, h1.rs, fun _ _ => Nat.zero_le _, fun i hi => rAss_part hi⟩⟩
  obtain ⟨A, c, e, hr, _⟩ := hn i hi
  exact ⟨A, c, e, hr.rs, fun _ _ => Nat.zero_le _⟩
set_option maxHeartbeats 2000000 in
/-- The law's eqProgram, at two programs of the same data. -/
theorem L_eqProgramF {NA NA2 AA AA2 : Option Addr} {nc nc2 ac ac2 : Nat} {ns : List ENode} {as_ : List EAssign} (w : World) (hn : RowL nodeF 0 w (.slice NA ns.length nc) ns) (ha : RowL assF 0 w (.slice AA as_.length ac) as_) (hn2 : RowL nodeF 0 w (.slice NA2 ns.length nc2) ns) (ha2 : RowL assF 0 w (.slice AA2 as_.length ac2) as_) :
    Calls Tryd.prog 6 #[.agg #[.slice NA ns.length nc, .slice AA as_.length ac], .agg #[.slice NA2 ns.length nc2, .slice AA2 as_.length ac2]] w fun e w' => e = .returned (.bool true) ∧ Below w.heap.size w w' := by
  have HN : Hid (∀ wx, Below w.heap.size w wx → Calls Tryd.prog 16 #[.slice NA ns.length nc, .slice NA2 ns.length nc2] wx fun e w' => e = .returned (.bool true) ∧ Below wx.heap.size wx w') := Lib.hid (fun wx hb => L_eqNodeSF wx (hn.step hb) (hn2.step hb))
  have HA : Hid (∀ wx, Below w.heap.size w wx → Calls Tryd.prog 17 #[.slice AA as_.length ac, .slice AA2 as_.length ac2] wx fun e w' => e = .returned (.bool true) ∧ Below wx.heap.size wx w') := Lib.hid (fun wx hb => L_eqAssignmentSF wx (ha.step hb) (ha2.step hb))
  clear hn hn2 ha ha2
  go_enter Tryd.func6, Tryd.ntmps6
  go_wp2_with fail
  (with_reducible refine (HN.out _ (by repeat (first | (with_reducible exact Below.refl _ _) | (with_reducible assumption) | ((with_reducible refine Below.alloc ?_ ?_ _); rotate_left; (first | omega | (simp <;> omega))) | ((with_reducible refine Below.setCell ?_ ?_ _); rotate_left; (first | omega | (simp <;> omega))) | (with_reducible refine below_drewN ?_ _) | (with_reducible refine Below.drew ?_) | ((with_reducible refine Below.step (by assumption) ?_ ?_); rotate_left; (first | omega | (simp <;> omega)))))).mono ?_)
  rintro e w1 ⟨rfl, hb1⟩
  have hz1 := hb1.size
  (try simp at hz1)
  have c0 : ∀ o, w1.cell? ⟨w.heap.size, o, none⟩ = _ := fun o => hb1.cell (p := ⟨w.heap.size, o, none⟩) (by simp; try omega)
  have c1 : ∀ o, w1.cell? ⟨w.heap.size + 1, o, none⟩ = _ := fun o => hb1.cell (p := ⟨w.heap.size + 1, o, none⟩) (by simp; try omega)
  have HB1 : Hid (Below w.heap.size w w1) := Lib.hid (Below.step hb1 (by repeat (first | (with_reducible exact Below.refl _ _) | (with_reducible assumption) | ((with_reducible refine Below.alloc ?_ ?_ _); rotate_left; (first | omega | (simp <;> omega))) | ((with_reducible refine Below.setCell ?_ ?_ _); rotate_left; (first | omega | (simp <;> omega))) | (with_reducible refine below_drewN ?_ _) | (with_reducible refine Below.drew ?_) | ((with_reducible refine Below.step (by assumption) ?_ ?_); rotate_left; (first | omega | (simp <;> omega))))) (by first | omega | (simp <;> omega)))
  clear hb1
  go_wp2_with fail
  (with_reducible refine (HA.out _ (by repeat (first | (with_reducible exact Below.refl _ _) | (with_reducible exact HB1.out) | (with_reducible assumption) | ((with_reducible refine Below.alloc ?_ ?_ _); rotate_left; (first | omega | (simp <;> omega))) | ((with_reducible refine Below.setCell ?_ ?_ _); rotate_left; (first | omega | (simp <;> omega))) | (with_reducible refine below_drewN ?_ _) | (with_reducible refine Below.drew ?_) | ((with_reducible refine Below.step (by assumption) ?_ ?_); rotate_left; (first | omega | (simp <;> omega)))))).mono ?_)
  rintro e w2 ⟨rfl, hb2⟩
  have HB2 : Hid (Below w.heap.size w w2) := Lib.hid (Below.step hb2 (by repeat (first | (with_reducible exact Below.refl _ _) | (with_reducible exact HB1.out) | (with_reducible assumption) | ((with_reducible refine Below.alloc ?_ ?_ _); rotate_left; (first | omega | (simp <;> omega))) | ((with_reducible refine Below.setCell ?_ ?_ _); rotate_left; (first | omega | (simp <;> omega))) | (with_reducible refine below_drewN ?_ _) | (with_reducible refine Below.drew ?_) | ((with_reducible refine Below.step (by assumption) ?_ ?_); rotate_left; (first | omega | (simp <;> omega))))) (by first | omega | (simp <;> omega)))
  clear hb2
  go_wp2_with fail
  go_ret
  exact ⟨rfl, HB2.out⟩
end Go.Proofs.YtnlbojckobgjpaaDoor
