/- MADE BY PROGRAM (genscx.py). The law FnExactFormatHeader. -/
import Derived.Test.YtjipfgadamokaaaGreatDoorSceneO
import Derived.Test.YtjipfgadamokaaaGreatDoorDigW
import Derived.Test.YtjipfgadamokaaaGreatDoorMgC
set_option linter.unusedVariables false
set_option linter.unusedSimpArgs false
namespace Go.Proofs.YtjipfgadamokaaaGreatDoor
open Go.ChangeShapes Go.WideShapes Go.ChangeAt Go.RowKit Go.Lib
set_option maxRecDepth 100000
set_option maxHeartbeats 16000000 in
theorem L_ExFormatHeader {lo : Nat} {s : EScene} {T P Q : Option Addr} {tc pc qc : Nat} (n : Int) (w : World) (h : SceneL lo w s T tc P pc Q qc) (ht : Tab w) (hm : MLen w) :
    Calls Tryz.prog 4 #[.agg ⟨cS s T tc P pc Q qc⟩, .int .i64 n] w fun e w' => e = .returned (.bool true) ∧ Below w.heap.size w w' := by
  have HSZ : Hid (∀ wx, Below w.heap.size w wx → Calls Tryz.prog 5 #[.agg ⟨cS s T tc P pc Q qc⟩, .int .i64 1048576] wx fun e w' => ∃ r : Int, e = .returned (.int .i64 r) ∧ r ≤ 1048576 ∧ (0 ≤ r → SceneB s) ∧ Below wx.heap.size wx w') := Lib.hid (fun wx hb => L_szScene wx (h.step hb) (by omega) (by omega))
  have HTO : Hid (SceneB s → ∀ wx, Below w.heap.size w wx → Calls Tryz.prog 7 #[.agg ⟨cS s T tc P pc Q qc⟩] wx fun e w' => ∃ T' tc' P' pc' Q' qc', e = .returned (.agg ⟨cS s T' tc' P' pc' Q' qc'⟩) ∧ SceneL wx.heap.size w' s T' tc' P' pc' Q' qc' ∧ Below wx.heap.size wx w') := Lib.hid (fun hB wx hb => L_toScene wx (h.step hb) hB)
  have HSD : Hid (SceneB s → ∀ wx lo (T : Option Addr) tc P pc Q qc, SceneL lo wx s T tc P pc Q qc → Calls Tryz.prog 10 #[.agg ⟨cS s T tc P pc Q qc⟩, .int .i64 n] wx fun e w' => e = .returned (str (headT s n)) ∧ Below wx.heap.size wx w') := Lib.hid (fun hB wx lo T tc P pc Q qc h => S_FormatHeader (s := s) (TA := T) (P := P) (Q := Q) (tc := tc) (pc := pc) (qc := qc) n wx (h.in_ hB))
  have HID : Hid (SceneB s → ∀ wx lo (T : Option Addr) tc P pc Q qc, SceneL lo wx s T tc P pc Q qc → Below w.heap.size w wx → Calls Tryz.prog 11 #[.agg ⟨cS s T tc P pc Q qc⟩, .int .i64 n] wx fun e w' => e = .returned (str (headT s n)) ∧ Below wx.heap.size wx w') := Lib.hid (fun hB wx lo T tc P pc Q qc h hb => I_FormatHeader (s := s) (TA := T) (P := P) (Q := Q) (tc := tc) (pc := pc) (qc := qc) n wx (h.in_ hB) (ht.step hb) (hm.step hb))
  have HAL : Hid (∀ wx : World, (Instr.alloc 38 true (.tuple #[])).run Tryz.prog wx = .ok (.pointer (some ⟨wx.heap.size, 0, none⟩)) (wx.alloc (.cells ⟨zS⟩ 38))) := Lib.hid (fun wx => by kernel_rfl)
  have HPZ : Hid (Own (w.alloc (.cells ⟨cS s T tc P pc Q qc⟩ 30)) w.heap.size 30 (cS s T tc P pc Q qc)) := Lib.hid (Own.new w _ _)
  have HL0 : Hid (∀ wx, Own wx w.heap.size 30 (cS s T tc P pc Q qc) → (Instr.loadAt 30 (.pointer (some ⟨w.heap.size, 0, none⟩))).run Tryz.prog wx = .ok (.agg ⟨cS s T tc P pc Q qc⟩) wx) := Lib.hid (fun wx ho => loadAt_cells (P := Tryz.prog) Tryz.underlying30 rfl zz_sceneL (fun j v hv => by rw [Nat.zero_add, ho.cell]; exact hv))
  have HL1 : Hid (∀ wx b (T : Option Addr) tc P pc Q qc, Own wx b 38 (cS s T tc P pc Q qc) → (Instr.loadAt 38 (.pointer (some ⟨b, 0, none⟩))).run Tryz.prog wx = .ok (.agg ⟨cS s T tc P pc Q qc⟩) wx) := Lib.hid (fun wx b T tc P pc Q qc ho => loadAt_cells (P := Tryz.prog) Tryz.underlying38 rfl zz_sceneI (fun j v hv => by rw [Nat.zero_add, ho.cell]; exact hv))
  clear h ht hm
  go_enter Tryz.func4, Tryz.ntmps4
  go_wp2_with (first | (refine wpList_loadE rfl 30 (.tmp 2) rfl rfl (HL0.out _ HPZ.out) ?_) | fail)
  refine (HSZ.out _ (by repeat (first | (with_reducible exact Below.refl _ _) | (with_reducible assumption) | ((with_reducible refine Below.alloc ?_ ?_ _); rotate_left; (first | omega | (simp <;> omega))) | ((with_reducible refine Below.setCell ?_ ?_ _); rotate_left; (first | omega | (simp <;> omega))) | (with_reducible refine below_drewN ?_ _) | (with_reducible refine Below.drew ?_) | ((with_reducible refine Below.step (by assumption) ?_ ?_); rotate_left; (first | omega | (simp <;> omega)))))).mono ?_
  rintro e wA ⟨r, rfl, hr1, hr2, hbA⟩
  have HPA : Hid (Own wA w.heap.size 30 (cS s T tc P pc Q qc)) := Lib.hid (Own.step hbA HPZ.out)
  have HBA : Hid (Below w.heap.size w wA) := Lib.hid (Below.step hbA (by repeat (first | (with_reducible exact Below.refl _ _) | (with_reducible assumption) | ((with_reducible refine Below.alloc ?_ ?_ _); rotate_left; (first | omega | (simp <;> omega))) | ((with_reducible refine Below.setCell ?_ ?_ _); rotate_left; (first | omega | (simp <;> omega))) | (with_reducible refine below_drewN ?_ _) | (with_reducible refine Below.drew ?_) | ((with_reducible refine Below.step (by assumption) ?_ ?_); rotate_left; (first | omega | (simp <;> omega))))) (by first | omega | (simp <;> omega)))
  have HR := Lib.hid hr2
  clear hbA hr2 HPZ HSZ
  rcases (show r < 0 ∨ 0 ≤ r by omega) with k4 | k4
  · go_wp2_with fail
    go_ret
    exact ⟨rfl, HBA.out⟩
  have k5 : ¬ r < 0 := by omega
  have HB : Hid (SceneB s) := Lib.hid (HR.out k4)
  go_wp2_with (first | (refine wpList_loadE rfl 30 (.tmp 2) rfl rfl (HL0.out _ HPA.out) ?_) | fail)
  refine (HTO.out HB.out _ HBA.out).mono ?_
  rintro e wB ⟨T1, tc1, P1, pc1, Q1, qc1, rfl, hsB, hbB⟩
  have HPB : Hid (Own wB w.heap.size 30 (cS s T tc P pc Q qc)) := Lib.hid (Own.step hbB HPA.out)
  have HBB : Hid (Below w.heap.size w wB) := Lib.hid (Below.step hbB HBA.out HBA.out.size)
  have HSB := Lib.hid hsB
  clear hbB hsB HPA
  go_wp2_with fail
  refine (HSD.out HB.out _ _ _ _ _ _ _ _ HSB.out).mono ?_
  rintro e wC ⟨rfl, hbC⟩
  have HPC : Hid (Own wC w.heap.size 30 (cS s T tc P pc Q qc)) := Lib.hid (Own.step hbC HPB.out)
  have HBC : Hid (Below w.heap.size w wC) := Lib.hid (Below.step hbC HBB.out HBB.out.size)
  clear hbC HPB HSB
  go_wp2_with (first | (refine wpList_loadE rfl 30 (.tmp 2) rfl rfl (HL0.out _ HPC.out) ?_) | fail)
  refine (HTO.out HB.out _ HBC.out).mono ?_
  rintro e wD ⟨T2, tc2, P2, pc2, Q2, qc2, rfl, hsD, hbD⟩
  have hlB : w.heap.size < wD.heap.size := (Own.step hbD HPC.out).lt
  have HPD : Hid (Own (wD.alloc (.cells ⟨zS⟩ 38)) w.heap.size 30 (cS s T tc P pc Q qc)) := Lib.hid (Own.alloc (Own.step hbD HPC.out) _)
  have hQD : Own (wD.alloc (.cells ⟨zS⟩ 38)) wD.heap.size 38 zS := Own.new wD _ _
  have HBD : Hid (Below w.heap.size w wD) := Lib.hid (Below.step hbD HBC.out HBC.out.size)
  obtain ⟨w5, hst, hs5, hbk5, hs6, g1, g2, g3⟩ := store_big (P := Tryz.prog) (T := 38) (zs := cS s T2 tc2 P2 pc2 Q2 qc2) (k := 0) hQD zz_sceneI (by show 12 ≤ 12; omega) (by rfl)
  have HST := Lib.hid hst
  have hs6' : w5.heap.size = wD.heap.size + 1 := by rw [hs6, World.size_alloc]
  have HQ5 : Hid (Own w5 wD.heap.size 38 (cS s T2 tc2 P2 pc2 Q2 qc2)) := Lib.hid hs5
  have HP5 : Hid (Own w5 w.heap.size 30 (cS s T tc P pc Q qc)) := Lib.hid ((hbk5 _ (by omega)).trans HPD.out)
  have hbel5 : Below wD.heap.size wD w5 := Below.trans (Below.alloc (Below.refl _ _) (Nat.le_refl _) _) ⟨g1, g2, g3, by omega, fun b h => hbk5 b (by omega)⟩
  have HB5 : Hid (Below w.heap.size w w5) := Lib.hid (Below.step hbel5 HBD.out HBD.out.size)
  have HS5 : Hid (SceneL 0 w5 s T2 tc2 P2 pc2 Q2 qc2) := Lib.hid ((hsD.step hbel5).mono (Nat.zero_le _))
  clear hbD hsD hQD hst hs5 hbk5 hs6 g1 g2 g3 hbel5 HPC HPD
  go_wp2_with (first | (refine wpList_allocE rfl 38 rfl (HAL.out _) ?_) | (refine wpList_storeE rfl 38 (.tmp 7) (.tmp 19) rfl rfl rfl HST.out ?_) | (refine wpList_loadE rfl 38 (.tmp 7) rfl rfl (HL1.out _ _ _ _ _ _ _ _ HQ5.out) ?_) | fail)
  refine (HID.out HB.out _ _ _ _ _ _ _ _ HS5.out HB5.out).mono ?_
  rintro e wE ⟨rfl, hbE⟩
  have HQE : Hid (Own wE wD.heap.size 38 (cS s T2 tc2 P2 pc2 Q2 qc2)) := Lib.hid (Own.step hbE HQ5.out)
  have HPE : Hid (Own wE w.heap.size 30 (cS s T tc P pc Q qc)) := Lib.hid (Own.step hbE HP5.out)
  have HBE : Hid (Below w.heap.size w wE) := Lib.hid (Below.step hbE HB5.out HB5.out.size)
  have HSE : Hid (SceneL 0 wE s T2 tc2 P2 pc2 Q2 qc2) := Lib.hid (HS5.out.step hbE)
  have hqlt := HQE.out.lt
  have hplt := HPE.out.lt
  clear hbE HS5 HQ5 HP5 HST HID HSD
  have e1 : ((headT s n) != (headT s n)) = false := by simp
  generalize headT s n = X at *
  have HLE0 : Hid ((Instr.loadAt 30 (.pointer (some ⟨w.heap.size, 0, none⟩))).run Tryz.prog wE = .ok (.agg ⟨cS s T tc P pc Q qc⟩) wE) := Lib.hid (HL0.out _ HPE.out)
  have HTO2 : Hid (∀ wx, Below w.heap.size w wx → Calls Tryz.prog 7 #[.agg ⟨cS s T tc P pc Q qc⟩] wx fun e w' => ∃ T' tc' P' pc' Q' qc', e = .returned (.agg ⟨cS s T' tc' P' pc' Q' qc'⟩) ∧ SceneL wx.heap.size w' s T' tc' P' pc' Q' qc' ∧ Below wx.heap.size wx w') := Lib.hid (HTO.out HB.out)
  have HEQ : Hid (∀ wx lo T1 tc1 P1 pc1 Q1 qc1, SceneL 0 wx s T2 tc2 P2 pc2 Q2 qc2 → SceneL lo wx s T1 tc1 P1 pc1 Q1 qc1 → Calls Tryz.prog 9 #[.agg ⟨cS s T2 tc2 P2 pc2 Q2 qc2⟩, .agg ⟨cS s T1 tc1 P1 pc1 Q1 qc1⟩] wx fun e w' => e = .returned (.bool true) ∧ Below wx.heap.size wx w') := Lib.hid (fun wx lo T1 tc1 P1 pc1 Q1 qc1 h1 h2 => L_eqScene wx h1 h2)
  clear HTO
  go_upto_region 10 with fail
  refine wp_region_held_drew (S := fun w' => (Instr.loadAt 38 (.pointer (some ⟨wD.heap.size, 0, none⟩))).run Tryz.prog w' = .ok (.agg ⟨cS s T2 tc2 P2 pc2 Q2 qc2⟩) w' ∧ (Instr.loadAt 30 (.pointer (some ⟨w.heap.size, 0, none⟩))).run Tryz.prog w' = .ok (.agg ⟨cS s T tc P pc Q qc⟩) w') (by kernel_rfl) ?_ (fun hHeld1 => ?_)
  · exact ⟨HL1.out _ _ _ _ _ _ _ _ (Own.drewN HQE.out _), HL0.out _ (Own.drewN HPE.out _)⟩
  (refine wpAnyH_take (i := 0) (v := Value.agg ⟨cS s T2 tc2 P2 pc2 Q2 qc2⟩) rfl (by kernel_rfl) (by kernel_rfl) (by kernel_rfl) (fun _ _ _ h => h) (Or.inl ⟨by rfl, fun w hSw => run_loadE rfl rfl hSw.1⟩) (by assumption) ?_); (try simp only [List.getElem_toArray, List.getElem_cons_succ, List.getElem_cons_zero, Act.put, List.setIfInBounds_toArray, List.set_cons_zero, List.set_cons_succ])
  (refine wpAnyH_take (i := 1) (v := Value.agg ⟨cS s T tc P pc Q qc⟩) rfl (by kernel_rfl) (by kernel_rfl) (by kernel_rfl) (fun _ _ _ h => h) (Or.inl ⟨by rfl, fun w hSw => run_loadE rfl rfl hSw.2⟩) (by assumption) ?_); (try simp only [List.getElem_toArray, List.getElem_cons_succ, List.getElem_cons_zero, Act.put, List.setIfInBounds_toArray, List.set_cons_zero, List.set_cons_succ])
  refine wpAnyH_ready (rs := [2]) (by kernel_rfl) (by simp) ?_
  refine AllReadyH.cons rfl (fun K hK => ?_) AllReadyH.nil
  go_simp
  (go_at_call 7; (refine (HTO2.out _ (by repeat (first | (with_reducible exact Below.refl _ _) | (with_reducible exact HBE.out) | (with_reducible assumption) | ((with_reducible refine Below.alloc ?_ ?_ _); rotate_left; (first | omega | (simp <;> omega))) | ((with_reducible refine Below.setCell ?_ ?_ _); rotate_left; (first | omega | (simp <;> omega))) | (with_reducible refine below_drewN ?_ _) | (with_reducible refine Below.drew ?_) | ((with_reducible refine Below.step (by assumption) ?_ ?_); rotate_left; (first | omega | (simp <;> omega)))))).mono ?_); rintro e wF ⟨T1, tc1, P1, pc1, Q1, qc1, rfl, hsF, hbF⟩)
  (try go_wp2_with fail)
  have HQF : Hid (Own wF wD.heap.size 38 (cS s T2 tc2 P2 pc2 Q2 qc2)) := Lib.hid (Own.step hbF (Own.drewN HQE.out _))
  have HPF : Hid (Own wF w.heap.size 30 (cS s T tc P pc Q qc)) := Lib.hid (Own.step hbF (Own.drewN HPE.out _))
  have HBF : Hid (Below w.heap.size w wF) := Lib.hid (Below.step hbF (by repeat (first | (with_reducible exact Below.refl _ _) | (with_reducible exact HBE.out) | (with_reducible assumption) | ((with_reducible refine Below.alloc ?_ ?_ _); rotate_left; (first | omega | (simp <;> omega))) | ((with_reducible refine Below.setCell ?_ ?_ _); rotate_left; (first | omega | (simp <;> omega))) | (with_reducible refine below_drewN ?_ _) | (with_reducible refine Below.drew ?_) | ((with_reducible refine Below.step (by assumption) ?_ ?_); rotate_left; (first | omega | (simp <;> omega))))) (by have := HBE.out.size; first | omega | (simp <;> omega)))
  have HSF : Hid (SceneL 0 wF s T2 tc2 P2 pc2 Q2 qc2) := Lib.hid (SceneL.step hbF (HSE.out.keep (Up.drewN (Up.refl _ _) _)))
  have HSN := Lib.hid hsF
  refine hK.out _ _ ?_ (fun hHeld2 => ?_)
  · exact ⟨HL1.out _ _ _ _ _ _ _ _ (Own.drewN HQF.out 0), HL0.out _ (Own.drewN HPF.out 0)⟩
  clear hK K hbF hsF hHeld1
  (try simp only [List.getElem_toArray, List.getElem_cons_succ, List.getElem_cons_zero, Act.put, List.setIfInBounds_toArray, List.set_cons_zero, List.set_cons_succ])
  refine wpAnyH_ready (rs := [3]) (by kernel_rfl) (by simp) ?_
  refine AllReadyH.cons rfl (fun K hK => ?_) AllReadyH.nil
  go_simp
  (go_at_call 9; (refine (HEQ.out _ _ _ _ _ _ _ _ HSF.out HSN.out).mono ?_); rintro e wG ⟨rfl, hbG⟩)
  (try go_wp2_with fail)
  have HBG : Hid (Below w.heap.size w wG) := Lib.hid (Below.step hbG (by repeat (first | (with_reducible exact Below.refl _ _) | (with_reducible exact HBF.out) | (with_reducible assumption) | ((with_reducible refine Below.alloc ?_ ?_ _); rotate_left; (first | omega | (simp <;> omega))) | ((with_reducible refine Below.setCell ?_ ?_ _); rotate_left; (first | omega | (simp <;> omega))) | (with_reducible refine below_drewN ?_ _) | (with_reducible refine Below.drew ?_) | ((with_reducible refine Below.step (by assumption) ?_ ?_); rotate_left; (first | omega | (simp <;> omega))))) (by have := HBF.out.size; first | omega | (simp <;> omega)))
  refine hK.out _ _ ?_ (fun hHeld3 => ?_)
  · exact ⟨HL1.out _ _ _ _ _ _ _ _ (Own.step hbG HQF.out), HL0.out _ (Own.step hbG HPF.out)⟩
  clear hK K hbG hHeld2
  (try simp only [List.getElem_toArray, List.getElem_cons_succ, List.getElem_cons_zero, Act.put, List.setIfInBounds_toArray, List.set_cons_zero, List.set_cons_succ])
  (refine wpAnyH_take (i := 4) (v := ?_) rfl (by kernel_rfl) (by kernel_rfl) (by kernel_rfl) (fun _ _ _ h => h) (Or.inl ⟨by rfl, ?_⟩) (by assumption) ?_; rotate_left; focus (intro w hSw; (try dsimp only at hSw); go_simp; try with_reducible rfl)); (try simp only [List.getElem_toArray, List.getElem_cons_succ, List.getElem_cons_zero, Act.put, List.setIfInBounds_toArray, List.set_cons_zero, List.set_cons_succ])
  refine wpAnyH_done (by kernel_rfl) ?_ _
  all_goals
    go_wp2_with fail
    go_ret
    exact ⟨rfl, (by repeat (first | (with_reducible exact Below.refl _ _) | (with_reducible exact HBG.out) | (with_reducible assumption) | ((with_reducible refine Below.alloc ?_ ?_ _); rotate_left; (first | omega | (simp <;> omega))) | ((with_reducible refine Below.setCell ?_ ?_ _); rotate_left; (first | omega | (simp <;> omega))) | (with_reducible refine below_drewN ?_ _) | (with_reducible refine Below.drew ?_) | ((with_reducible refine Below.step (by assumption) ?_ ?_); rotate_left; (first | omega | (simp <;> omega)))))⟩
def fnExactFormatHeaderLaid : List (String × DataW Unit) := [("math/bits.deBruijn32tab", Rows.laid_math_bits_deBruijn32tab), ("math/bits.deBruijn64tab", Rows.laid_math_bits_deBruijn64tab), ("internal/strconv.uint64pow10", Rows.laid_internal_strconv_uint64pow10), ("unicode/utf8.acceptRanges", Rows.laid_unicode_utf8_acceptRanges), ("unicode/utf8.first", Rows.laid_unicode_utf8_first)]
theorem FnExactFormatHeader_walk : LawWalkD fnExactFormatHeaderLaid 4 [30, 3] := by
  intro H enc W base args ds ps hA hval hlt hsz hL hsh
  obtain ⟨v0, v1, rfl, a0, a1⟩ := args2 hA hval
  obtain ⟨s, T, tc, P, pc, Q, qc, rfl, h⟩ := a0.scene
  obtain ⟨n, rfl, _⟩ := a1.int Tryz.underlying3
  have hm : MLen W := Go.Proofs.cell_of_shapedOpen_int (zero := #[.int .i64 0]) (t := 3) hsh (of_decide_eq_true (by kernel_rfl)) (by kernel_rfl) rfl (by kernel_rfl) (by kernel_rfl) Tryz.underlying3
  exact L_ExFormatHeader n W h (tab_of_laid hL) hm
end Go.Proofs.YtjipfgadamokaaaGreatDoor
