/- MADE BY PROGRAM (genscl.py). Scenes: the laws' own helpers. -/
import Derived.Test.YtjipfgadamokaaaGreatDoorRowsV
import Derived.Test.YtjipfgadamokaaaGreatDoorMgD
import Derived.Test.YtjipfgadamokaaaGreatDoorMgF
set_option linter.unusedVariables false
set_option linter.unusedSimpArgs false
namespace Go.Proofs.YtjipfgadamokaaaGreatDoor
open Go.RowKit Go.Lib
set_option maxRecDepth 100000

theorem RowL.nodes {lo : Nat} {w : World} {A : Option Addr} {c : Nat} {l : List ENode} (h : RowL nodeE lo w (.slice A l.length c) l) : NodesIn w A c l := by
  obtain ⟨A0, c0, e0, hlc, hcm⟩ := h.slice
  injection e0 with e1 e2 e3
  subst e1; subst e3
  refine ⟨hlc, hcm, fun i hi => ?_⟩
  obtain ⟨b, o, ys, hA, hb, hyl, hp, hcell⟩ := h.at_ hi
  obtain ⟨A', c', rfl, hs, hr, _⟩ := hp
  exact ⟨b, o, A', c', hA, hb, hs, hr, hcell 0 _ rfl, hcell 1 _ rfl, hcell 2 _ rfl, hcell 3 _ rfl⟩
theorem RowL.assigns {lo : Nat} {w : World} {A : Option Addr} {c : Nat} {l : List EAssign} (h : RowL assE lo w (.slice A l.length c) l) : AssignsIn w A c l := by
  obtain ⟨A0, c0, e0, hlc, hcm⟩ := h.slice
  injection e0 with e1 e2 e3
  subst e1; subst e3
  refine ⟨hlc, hcm, fun i hi => ?_⟩
  obtain ⟨b, o, ys, hA, hb, hyl, hp, hcell⟩ := h.at_ hi
  obtain ⟨rfl, hs⟩ := hp
  exact ⟨b, o, hA, hb, hs, hcell 0 _ rfl, hcell 1 _ rfl⟩
theorem RowL.progs {lo : Nat} {w : World} {A : Option Addr} {c : Nat} {l : List EProg} (h : RowL progE lo w (.slice A l.length c) l) (hB : ∀ x ∈ l, progB x) : ProgsIn w A c l := by
  obtain ⟨A0, c0, e0, hlc, hcm⟩ := h.slice
  injection e0 with e1 e2 e3
  subst e1; subst e3
  refine ⟨hlc, hcm, fun i hi => ?_⟩
  obtain ⟨b, o, ys, hA, hb, hyl, hp, hcell⟩ := h.at_ hi
  obtain ⟨u, v, rfl, h1, h2⟩ := hp
  obtain ⟨A1, c1, rfl, _⟩ := h1.slice
  obtain ⟨A2, c2, rfl, _⟩ := h2.slice
  have hx := hB _ (List.getElem_mem hi)
  exact ⟨b, o, A1, c1, A2, c2, hA, hb, ⟨h1.nodes, h2.assigns⟩, hx.1.1, hx.2.1, hcell 0 _ rfl, hcell 1 _ rfl⟩
theorem RowL.surfs {lo : Nat} {w : World} {A : Option Addr} {c : Nat} {l : List ESurf} (h : RowL surfE lo w (.slice A l.length c) l) : SurfsIn w A c l := by
  obtain ⟨A0, c0, e0, hlc, hcm⟩ := h.slice
  injection e0 with e1 e2 e3
  subst e1; subst e3
  refine ⟨hlc, hcm, fun i hi => ?_⟩
  obtain ⟨b, o, ys, hA, hb, hyl, hp, hcell⟩ := h.at_ hi
  obtain rfl : ys = cSurf l[i].1 l[i].2.1 l[i].2.2.1 l[i].2.2.2 := hp
  exact ⟨b, o, hA, hb, ⟨hcell 0 _ rfl, hcell 1 _ rfl, hcell 2 _ rfl, hcell 3 _ rfl, hcell 4 _ rfl, hcell 5 _ rfl, hcell 6 _ rfl, hcell 7 _ rfl, hcell 8 _ rfl, hcell 9 _ rfl, hcell 10 _ rfl, hcell 11 _ rfl, hcell 12 _ rfl, hcell 13 _ rfl, hcell 14 _ rfl, hcell 15 _ rfl, hcell 16 _ rfl, hcell 17 _ rfl, hcell 18 _ rfl, hcell 19 _ rfl, hcell 20 _ rfl, hcell 21 _ rfl, hcell 22 _ rfl, hcell 23 _ rfl, hcell 24 _ rfl, hcell 25 _ rfl⟩⟩
structure SceneL (lo : Nat) (w : World) (s : EScene) (T : Option Addr) (tc : Nat) (P : Option Addr) (pc : Nat) (Q : Option Addr) (qc : Nat) : Prop where
  tex : RS w 1 T s.tex.length tc (ints s.tex)
  texl : lowA lo T
  ps : RowL progE lo w (.slice P s.ps.length pc) s.ps
  ss : RowL surfE lo w (.slice Q s.ss.length qc) s.ss
theorem SceneL.keep {lo : Nat} {w w' : World} {s : EScene} {T P Q : Option Addr} {tc pc qc : Nat} (h : SceneL lo w s T tc P pc Q qc) (hu : Up lo w w') : SceneL lo w' s T tc P pc Q qc := ⟨h.tex.up h.texl hu, h.texl, h.ps.keep hu, h.ss.keep hu⟩
theorem SceneL.step {lo : Nat} {w w' : World} {s : EScene} {T P Q : Option Addr} {tc pc qc : Nat} (hb : Below w.heap.size w w') (h : SceneL lo w s T tc P pc Q qc) : SceneL lo w' s T tc P pc Q qc := h.keep (Up.of_below hb)
theorem SceneL.mono {lo lo' : Nat} {w : World} {s : EScene} {T P Q : Option Addr} {tc pc qc : Nat} (h : SceneL lo w s T tc P pc Q qc) (hl : lo' ≤ lo) : SceneL lo' w s T tc P pc Q qc := ⟨h.tex, fun x hx => Nat.le_trans hl (h.texl x hx), h.ps.mono hl, h.ss.mono hl⟩
def SceneB (s : EScene) : Prop := s.tex.length ≤ 1048576 ∧ (s.ps.length ≤ 1048576 ∧ ∀ x ∈ s.ps, progB x) ∧ s.ss.length ≤ 1048576
theorem SceneL.in_ {lo : Nat} {w : World} {s : EScene} {T P Q : Option Addr} {tc pc qc : Nat} (h : SceneL lo w s T tc P pc Q qc) (hB : SceneB s) : SceneIn w s T tc P pc Q qc := ⟨h.tex, h.ps.progs hB.2.1.2, h.ss.surfs⟩
def cS (s : EScene) (T : Option Addr) (tc : Nat) (P : Option Addr) (pc : Nat) (Q : Option Addr) (qc : Nat) : List Value := cScene s T tc P pc Q qc
theorem cS_len (s : EScene) (T : Option Addr) (tc : Nat) (P : Option Addr) (pc : Nat) (Q : Option Addr) (qc : Nat) : (cS s T tc P pc Q qc).length = 12 := rfl
def zS : List Value := [.int .i64 0, .int .i64 0, .int .i64 0, .int .i64 0, .bool false, .int .i64 0, .int .i64 0, .int .i64 0, .slice none 0 0, .slice none 0 0, .slice none 0 0, .int .i64 0]
def cCam (s : EScene) : List Value := [.int .i64 s.a, .int .i64 s.b, .int .i64 s.c, .int .i64 s.d, .bool s.e, .int .i64 s.f, .int .i64 s.g]
theorem cCam_len (s : EScene) : (cCam s).length = 7 := rfl
theorem zz_sceneI : (Tryz.prog.info? 38).map (·.size) = some 12 := by kernel_rfl
theorem zz_sceneL : (Tryz.prog.info? 30).map (·.size) = some 12 := by kernel_rfl
theorem zz_camI : (Tryz.prog.info? 33).map (·.size) = some 7 := by kernel_rfl
theorem zz_camL : (Tryz.prog.info? 23).map (·.size) = some 7 := by kernel_rfl
theorem zz_texI : (Tryz.prog.info? 34).map (·.size) = some 2 := by kernel_rfl
theorem zz_texL : (Tryz.prog.info? 26).map (·.size) = some 2 := by kernel_rfl
theorem cS_cam {s : EScene} {T P Q : Option Addr} {tc pc qc j : Nat} {v : Value} (h : (cCam s)[j]? = some v) : (cS s T tc P pc Q qc)[j]? = some v := by
  have hj : j < (cCam s).length := (List.getElem?_eq_some_iff.1 h).1
  show (cCam s ++ [.int .i64 s.log, .slice T s.tex.length tc, .slice P s.ps.length pc, .slice Q s.ss.length qc, .int .i64 s.side])[j]? = some v
  rw [List.getElem?_append_left hj]; exact h
theorem cS_tex {s : EScene} {T P Q : Option Addr} {tc pc qc j : Nat} {v : Value} (h : ([.int .i64 s.log, .slice T s.tex.length tc] : List Value)[j]? = some v) : (cS s T tc P pc Q qc)[7 + j]? = some v := by
  match j, h with
  | 0, h => exact h
  | 1, h => exact h
set_option maxHeartbeats 8000000 in
theorem L_szScene {lo : Nat} {s : EScene} {T P Q : Option Addr} {tc pc qc : Nat} {left : Int} (w : World) (h : SceneL lo w s T tc P pc Q qc) (h1 : 0 ≤ left) (h2 : left ≤ 1048576) :
    Calls Tryz.prog 5 #[.agg ⟨cS s T tc P pc Q qc⟩, .int .i64 left] w fun e w' => ∃ r : Int, e = .returned (.int .i64 r) ∧ r ≤ left ∧ (0 ≤ r → SceneB s) ∧ Below w.heap.size w w' := by
  have htl := h.tex.len
  have hsl : s.ss.length ≤ maxLen := by obtain ⟨A0, c0, e0, hlc, hcm⟩ := h.ss.slice; omega
  have HT : Hid (∀ wx, Calls Tryz.prog 12 #[.agg ⟨[.int .i64 s.log, .slice T s.tex.length tc]⟩, .int .i64 left] wx fun e w' => e = .returned (.int .i64 (szF left s.tex.length)) ∧ Below wx.heap.size wx w') := Lib.hid (fun wx => L_szTexture wx h1 h2 htl)
  have HP : Hid (∀ r : Int, 0 ≤ r → r ≤ left → ∀ wx, Below w.heap.size w wx → Calls Tryz.prog 13 #[.slice P s.ps.length pc, .int .i64 r] wx fun e w' => ∃ r2 : Int, e = .returned (.int .i64 r2) ∧ -1 ≤ r2 ∧ r2 ≤ r ∧ (0 ≤ r2 → s.ps.length ≤ 1048576 ∧ ∀ x ∈ s.ps, progB x) ∧ Below wx.heap.size wx w') := Lib.hid (fun r g1 g2 wx hb => L_szProgramS wx (h.ps.step hb) g1 (by omega))
  have HS : Hid (∀ r : Int, 0 ≤ r → r ≤ left → ∀ wx, Calls Tryz.prog 14 #[.slice Q s.ss.length qc, .int .i64 r] wx fun e w' => e = .returned (.int .i64 (szF r s.ss.length)) ∧ wx = w') := Lib.hid (fun r g1 g2 wx => L_szSurfaceS wx g1 (by omega) hsl)
  have HPZ : Hid (Own (w.alloc (.cells ⟨cS s T tc P pc Q qc⟩ 30)) w.heap.size 30 (cS s T tc P pc Q qc)) := Lib.hid (Own.new w _ _)
  have HLD : Hid ((Instr.loadAt 26 (.pointer (some ⟨w.heap.size, 7, none⟩))).run Tryz.prog (w.alloc (.cells ⟨cS s T tc P pc Q qc⟩ 30)) = .ok (.agg ⟨[.int .i64 s.log, .slice T s.tex.length tc]⟩) (w.alloc (.cells ⟨cS s T tc P pc Q qc⟩ 30))) := Lib.hid (loadAt_cells (P := Tryz.prog) Tryz.underlying26 rfl zz_texL (fun j v hv => by rw [HPZ.out.cell]; exact cS_tex hv))
  have HZ : Hid (szF left s.tex.length = -1 ∨ (0 ≤ szF left s.tex.length ∧ szF left s.tex.length ≤ left ∧ (s.tex.length : Int) ≤ left)) := Lib.hid (by
    by_cases h : left < s.tex.length
    · exact .inl (szF_big h)
    · have := szF_small (left := left) (n := s.tex.length) (by omega); right; omega)
  clear h
  generalize szF left s.tex.length = r0 at *
  rcases HZ.out with rfl | ⟨g1, g2, g3⟩
  · go_enter Tryz.func5, Tryz.ntmps5
    go_wp2_with (first | (refine wpList_loadE rfl 26 (.tmp 5) rfl rfl HLD.out ?_) | fail)
    refine (HT.out _).mono ?_
    rintro e wA ⟨rfl, hbA⟩
    have HBA : Hid (Below w.heap.size w wA) := Lib.hid (Below.step hbA (by repeat (first | (with_reducible exact Below.refl _ _) | (with_reducible assumption) | ((with_reducible refine Below.alloc ?_ ?_ _); rotate_left; (first | omega | (simp <;> omega))) | ((with_reducible refine Below.setCell ?_ ?_ _); rotate_left; (first | omega | (simp <;> omega))) | (with_reducible refine below_drewN ?_ _) | (with_reducible refine Below.drew ?_) | ((with_reducible refine Below.step (by assumption) ?_ ?_); rotate_left; (first | omega | (simp <;> omega))))) (by first | omega | (simp <;> omega)))
    clear hbA
    go_wp2_with fail
    go_ret
    exact ⟨-1, rfl, by omega, fun h => absurd h (by omega), HBA.out⟩
  have g4 : ¬ r0 < 0 := by omega
  go_enter Tryz.func5, Tryz.ntmps5
  go_wp2_with (first | (refine wpList_loadE rfl 26 (.tmp 5) rfl rfl HLD.out ?_) | fail)
  refine (HT.out _).mono ?_
  rintro e wA ⟨rfl, hbA⟩
  have HPA : Hid (Own wA w.heap.size 30 (cS s T tc P pc Q qc)) := Lib.hid (Own.step hbA HPZ.out)
  have HBA : Hid (Below w.heap.size w wA) := Lib.hid (Below.step hbA (by repeat (first | (with_reducible exact Below.refl _ _) | (with_reducible assumption) | ((with_reducible refine Below.alloc ?_ ?_ _); rotate_left; (first | omega | (simp <;> omega))) | ((with_reducible refine Below.setCell ?_ ?_ _); rotate_left; (first | omega | (simp <;> omega))) | (with_reducible refine below_drewN ?_ _) | (with_reducible refine Below.drew ?_) | ((with_reducible refine Below.step (by assumption) ?_ ?_); rotate_left; (first | omega | (simp <;> omega))))) (by first | omega | (simp <;> omega)))
  have t9 : wA.cell? ⟨w.heap.size, 9, none⟩ = some (.slice P s.ps.length pc) := HPA.out.cell 9
  have lA : w.heap.size < wA.heap.size := HPA.out.lt
  clear hbA HPZ HLD
  go_wp2_with fail
  refine (HP.out r0 g1 g2 _ HBA.out).mono ?_
  rintro e wB ⟨r, rfl, k0, k1, k2, hbB⟩
  have HPB : Hid (Own wB w.heap.size 30 (cS s T tc P pc Q qc)) := Lib.hid (Own.step hbB HPA.out)
  have HBB : Hid (Below w.heap.size w wB) := Lib.hid (Below.step hbB HBA.out HBA.out.size)
  have HK := Lib.hid k2
  have t10 : wB.cell? ⟨w.heap.size, 10, none⟩ = some (.slice Q s.ss.length qc) := HPB.out.cell 10
  have lB : w.heap.size < wB.heap.size := HPB.out.lt
  clear hbB k2 HPA t9
  rcases (show r < 0 ∨ 0 ≤ r by omega) with k4 | k4
  · go_wp2_with fail
    go_ret
    exact ⟨-1, rfl, by omega, fun h => absurd h (by omega), HBB.out⟩
  have k5 : ¬ r < 0 := by omega
  go_wp2_with fail
  refine (HS.out r k4 (by omega) _).mono ?_
  rintro e wC ⟨rfl, rfl⟩
  by_cases hq : r < s.ss.length
  · have hz := szF_big hq
    have hz2 : szF r s.ss.length < 0 := by omega
    go_wp2_with fail
    go_ret
    exact ⟨-1, rfl, by omega, fun h => absurd h (by omega), HBB.out⟩
  · have hz := szF_small (left := r) (n := s.ss.length) (by omega)
    have hz2 : ¬ szF r s.ss.length < 0 := by omega
    go_wp2_with fail
    go_ret
    exact ⟨szF r s.ss.length, rfl, by omega, fun _ => ⟨by omega, HK.out k4, by omega⟩, HBB.out⟩
set_option maxHeartbeats 16000000 in
theorem L_toScene {lo : Nat} {s : EScene} {T P Q : Option Addr} {tc pc qc : Nat} (w : World) (h : SceneL lo w s T tc P pc Q qc) (hB : SceneB s) :
    Calls Tryz.prog 7 #[.agg ⟨cS s T tc P pc Q qc⟩] w fun e w' => ∃ T' tc' P' pc' Q' qc', e = .returned (.agg ⟨cS s T' tc' P' pc' Q' qc'⟩) ∧ SceneL w.heap.size w' s T' tc' P' pc' Q' qc' ∧ Below w.heap.size w w' := by
  have hal : ∀ wx : World, (Instr.alloc 38 true (.tuple #[])).run Tryz.prog wx = .ok (.pointer (some ⟨wx.heap.size, 0, none⟩)) (wx.alloc (.cells ⟨zS⟩ 38)) := fun wx => by kernel_rfl
  have HCAM : Hid (∀ wx, Calls Tryz.prog 18 #[.agg ⟨cCam s⟩] wx fun e w' => e = .returned (.agg ⟨cCam s⟩) ∧ Below wx.heap.size wx w') := Lib.hid (fun wx => L_toCamera s.a s.b s.c s.d s.e s.f s.g wx)
  have HTEX : Hid (∀ wx, Below w.heap.size w wx → Calls Tryz.prog 19 #[.agg ⟨[.int .i64 s.log, .slice T s.tex.length tc]⟩] wx fun e w' => ∃ g, e = .returned (.agg ⟨[.int .i64 s.log, .slice (some ⟨g, 0, none⟩) s.tex.length s.tex.length]⟩) ∧ RS w' 1 (some ⟨g, 0, none⟩) s.tex.length s.tex.length (ints s.tex) ∧ wx.heap.size ≤ g ∧ Below wx.heap.size wx w') := Lib.hid (fun wx hb => (L_toTexture wx hB.1 (RS.step hb h.tex)).mono (by rintro e w' ⟨g, rfl, _, h2, h3, h4⟩; exact ⟨g, rfl, h2, h3, h4⟩))
  have HPS : Hid (∀ wx, Below w.heap.size w wx → Calls Tryz.prog 20 #[.slice P s.ps.length pc] wx fun e w' => ∃ v, e = .returned v ∧ RowL progE wx.heap.size w' v s.ps ∧ Below wx.heap.size wx w') := Lib.hid (fun wx hb => L_toProgramS wx (h.ps.step hb) hB.2.1.1 hB.2.1.2)
  have HSS : Hid (∀ wx, Below w.heap.size w wx → Calls Tryz.prog 21 #[.slice Q s.ss.length qc] wx fun e w' => ∃ v, e = .returned v ∧ RowL surfE wx.heap.size w' v s.ss ∧ Below wx.heap.size wx w') := Lib.hid (fun wx hb => L_toSurfaceS wx (h.ss.step hb) hB.2.2 (fun _ _ => trivial))
  have HA0 : Hid (Own (((w.alloc (.cells ⟨cS s T tc P pc Q qc⟩ 30)).alloc (.cells ⟨zS⟩ 38)).alloc (.cells ⟨zS⟩ 38)) w.heap.size 30 (cS s T tc P pc Q qc)) := Lib.hid (Own.alloc (Own.alloc (Own.new w _ _) _) _)
  have HA1 : Hid (Own (((w.alloc (.cells ⟨cS s T tc P pc Q qc⟩ 30)).alloc (.cells ⟨zS⟩ 38)).alloc (.cells ⟨zS⟩ 38)) (w.heap.size + 1) 38 zS) := Lib.hid (Own.alloc (Own.at_new (cs := ⟨zS⟩) (by simp)) _)
  have HA2 : Hid (Own (((w.alloc (.cells ⟨cS s T tc P pc Q qc⟩ 30)).alloc (.cells ⟨zS⟩ 38)).alloc (.cells ⟨zS⟩ 38)) (w.heap.size + 1 + 1) 38 zS) := Lib.hid (Own.at_new (cs := ⟨zS⟩) (by simp))
  have HLD : Hid ((Instr.loadAt 23 (.pointer (some ⟨w.heap.size, 0, none⟩))).run Tryz.prog (((w.alloc (.cells ⟨cS s T tc P pc Q qc⟩ 30)).alloc (.cells ⟨zS⟩ 38)).alloc (.cells ⟨zS⟩ 38)) = .ok (.agg ⟨cCam s⟩) (((w.alloc (.cells ⟨cS s T tc P pc Q qc⟩ 30)).alloc (.cells ⟨zS⟩ 38)).alloc (.cells ⟨zS⟩ 38))) := Lib.hid (loadAt_cells (P := Tryz.prog) Tryz.underlying23 rfl zz_camL (fun j v hv => by rw [Nat.zero_add, HA0.out.cell]; exact cS_cam hv))
  clear h hB
  go_enter Tryz.func7, Tryz.ntmps7
  go_wp2_with (first | (refine wpList_allocE rfl 38 rfl (hal _) ?_) | (refine wpList_loadE rfl 23 (.tmp 4) rfl rfl HLD.out ?_) | fail)
  clear hal
  refine (HCAM.out _).mono ?_
  rintro e wA ⟨rfl, hbA⟩
  have hzA := hbA.size
  (try simp at hzA)
  obtain ⟨w2, hst, hs, hbk, hs2, e1, e2, e3⟩ := store_big (P := Tryz.prog) (T := 33) (zs := cCam s) (k := 0) (Own.step hbA HA2.out) zz_camI (by show 7 ≤ 12; omega) (by rfl)
  have HST := Lib.hid hst
  have HO2 : Hid (Own w2 (w.heap.size + 1 + 1) 38 (cCam s ++ [.int .i64 0, .slice none 0 0, .slice none 0 0, .slice none 0 0, .int .i64 0])) := Lib.hid hs
  have HO1 : Hid (Own w2 (w.heap.size + 1) 38 zS) := Lib.hid ((hbk _ (by omega)).trans (Own.step hbA HA1.out))
  have HO0 : Hid (Own w2 w.heap.size 30 (cS s T tc P pc Q qc)) := Lib.hid ((hbk _ (by omega)).trans (Own.step hbA HA0.out))
  have HB2 : Hid (Below w.heap.size w w2) := Lib.hid (Below.trans (Below.step hbA (by repeat (first | (with_reducible exact Below.refl _ _) | (with_reducible assumption) | ((with_reducible refine Below.alloc ?_ ?_ _); rotate_left; (first | omega | (simp <;> omega))) | ((with_reducible refine Below.setCell ?_ ?_ _); rotate_left; (first | omega | (simp <;> omega))) | (with_reducible refine below_drewN ?_ _) | (with_reducible refine Below.drew ?_) | ((with_reducible refine Below.step (by assumption) ?_ ?_); rotate_left; (first | omega | (simp <;> omega))))) (by first | omega | (simp <;> omega))) ⟨e1, e2, e3, by omega, fun b h => hbk b (by omega)⟩)
  have HLD2 : Hid ((Instr.loadAt 26 (.pointer (some ⟨w.heap.size, 7, none⟩))).run Tryz.prog w2 = .ok (.agg ⟨[.int .i64 s.log, .slice T s.tex.length tc]⟩) w2) := Lib.hid (loadAt_cells (P := Tryz.prog) Tryz.underlying26 rfl zz_texL (fun j v hv => by rw [HO0.out.cell]; exact cS_tex hv))
  clear hbA hst hs hbk e1 e2 e3 HLD HA0 HA1 HA2
  go_wp2_with (first | (refine wpList_storeE rfl 33 (.tmp 7) (.tmp 6) rfl rfl rfl HST.out ?_) | (refine wpList_loadE rfl 26 (.tmp 8) rfl rfl HLD2.out ?_) | fail)
  refine (HTEX.out _ HB2.out).mono ?_
  rintro e wB ⟨g, rfl, hrB, hgB, hbB⟩
  have hzB := hbB.size
  obtain ⟨w3, hst, hs, hbk, hs3, e1, e2, e3⟩ := store_big (P := Tryz.prog) (T := 34) (zs := [.int .i64 s.log, .slice (some ⟨g, 0, none⟩) s.tex.length s.tex.length]) (k := 7) (Own.step hbB HO2.out) zz_texI (by show 9 ≤ 12; omega) (by rfl)
  have HST3 := Lib.hid hst
  have HO2' : Hid (Own w3 (w.heap.size + 1 + 1) 38 (cCam s ++ [.int .i64 s.log, .slice (some ⟨g, 0, none⟩) s.tex.length s.tex.length, .slice none 0 0, .slice none 0 0, .int .i64 0])) := Lib.hid hs
  have HO1' : Hid (Own w3 (w.heap.size + 1) 38 zS) := Lib.hid ((hbk _ (by omega)).trans (Own.step hbB HO1.out))
  have HO0' : Hid (Own w3 w.heap.size 30 (cS s T tc P pc Q qc)) := Lib.hid ((hbk _ (by omega)).trans (Own.step hbB HO0.out))
  have HB3 : Hid (Below w.heap.size w w3) := Lib.hid (Below.trans (Below.step hbB HB2.out HB2.out.size) ⟨e1, e2, e3, by omega, fun b h => hbk b (by omega)⟩)
  have hl2 : w.heap.size + 1 + 1 < w2.heap.size := HO2.out.lt
  have HLT : Hid (lowA (w.heap.size + 1 + 1 + 1) (some (⟨g, 0, none⟩ : Addr))) := Lib.hid (fun x hx => by simp [gOf] at hx; omega)
  have HTX3 : Hid (RS w3 1 (some ⟨g, 0, none⟩) s.tex.length s.tex.length (ints s.tex)) := Lib.hid (hrB.up HLT.out ⟨by omega, fun b h _ => hbk b (by omega)⟩)
  have t9 : w3.cell? ⟨w.heap.size, 9, none⟩ = some (.slice P s.ps.length pc) := HO0'.out.cell 9
  have l3 : w.heap.size + 1 + 1 < w3.heap.size := HO2'.out.lt
  clear hbB hst hs hbk e1 e2 e3 HLD2 HO0 HO1 HO2 hrB
  go_wp2_with (first | (refine wpList_storeE rfl 34 (.tmp 11) (.tmp 10) rfl rfl rfl HST3.out ?_) | fail)
  refine (HPS.out _ HB3.out).mono ?_
  rintro e wC ⟨v1, rfl, hrC, hbC⟩
  obtain ⟨P1, pc1, rfl, _⟩ := hrC.slice
  have hzC := hbC.size
  have HC2 : Hid (Own wC (w.heap.size + 1 + 1) 38 (cCam s ++ [.int .i64 s.log, .slice (some ⟨g, 0, none⟩) s.tex.length s.tex.length, .slice none 0 0, .slice none 0 0, .int .i64 0])) := Lib.hid (Own.step hbC HO2'.out)
  have HC1 : Hid (Own wC (w.heap.size + 1) 38 zS) := Lib.hid (Own.step hbC HO1'.out)
  have HC0 : Hid (Own wC w.heap.size 30 (cS s T tc P pc Q qc)) := Lib.hid (Own.step hbC HO0'.out)
  have HTXC : Hid (RS wC 1 (some ⟨g, 0, none⟩) s.tex.length s.tex.length (ints s.tex)) := Lib.hid (RS.step hbC HTX3.out)
  have HRC : Hid (RowL progE (w.heap.size + 1 + 1 + 1) wC (.slice P1 s.ps.length pc1) s.ps) := Lib.hid (hrC.mono (by omega))
  have HBC : Hid (Below w.heap.size w wC) := Lib.hid (Below.step hbC HB3.out HB3.out.size)
  have t10 : wC.cell? ⟨w.heap.size, 10, none⟩ = some (.slice Q s.ss.length qc) := HC0.out.cell 10
  have y9 : wC.cell? ⟨(w.heap.size + 1 + 1), 9, none⟩ = some (.slice none 0 0) := HC2.out.cell 9
  have f9 : wC.frozen? ⟨(w.heap.size + 1 + 1), 9, none⟩ = false := HC2.out.frozen 9
  have lC : w.heap.size + 1 + 1 < wC.heap.size := HC2.out.lt
  clear hbC hrC HO0' HO1' HO2' HTX3 HB3 t9 l3 HST HST3
  go_wp2_with fail
  have HD2a : Hid (Own (wC.setCell ⟨(w.heap.size + 1 + 1), 9, none⟩ (.slice P1 s.ps.length pc1)) (w.heap.size + 1 + 1) 38 (cCam s ++ [.int .i64 s.log, .slice (some ⟨g, 0, none⟩) s.tex.length s.tex.length, .slice P1 s.ps.length pc1, .slice none 0 0, .int .i64 0])) := Lib.hid (HC2.out.set_ 9 _)
  have HD1a : Hid (Own (wC.setCell ⟨(w.heap.size + 1 + 1), 9, none⟩ (.slice P1 s.ps.length pc1)) (w.heap.size + 1) 38 zS) := Lib.hid (HC1.out.far (p := ⟨(w.heap.size + 1 + 1), 9, none⟩) (by show w.heap.size + 1 ≠ w.heap.size + 1 + 1; omega) _)
  have HD0a : Hid (Own (wC.setCell ⟨(w.heap.size + 1 + 1), 9, none⟩ (.slice P1 s.ps.length pc1)) w.heap.size 30 (cS s T tc P pc Q qc)) := Lib.hid (HC0.out.far (p := ⟨(w.heap.size + 1 + 1), 9, none⟩) (by show w.heap.size ≠ w.heap.size + 1 + 1; omega) _)
  have HUa : Hid (Up (w.heap.size + 1 + 1 + 1) wC (wC.setCell ⟨(w.heap.size + 1 + 1), 9, none⟩ (.slice P1 s.ps.length pc1))) := Lib.hid (Up.setCell (Up.refl _ _) (by show w.heap.size + 1 + 1 < _; omega) _)
  have HBa : Hid (Below w.heap.size w (wC.setCell ⟨(w.heap.size + 1 + 1), 9, none⟩ (.slice P1 s.ps.length pc1))) := Lib.hid (HBC.out.setCell (p := ⟨(w.heap.size + 1 + 1), 9, none⟩) (by show w.heap.size ≤ w.heap.size + 1 + 1; omega) _)
  have hza : (wC.setCell ⟨(w.heap.size + 1 + 1), 9, none⟩ (.slice P1 s.ps.length pc1)).heap.size = wC.heap.size := by simp [World.setCell]
  refine (HSS.out _ HBa.out).mono ?_
  rintro e wD ⟨v2, rfl, hrD, hbD⟩
  obtain ⟨Q1, qc1, rfl, _⟩ := hrD.slice
  have hzD := hbD.size
  rw [hza] at hzD
  have HE2 : Hid (Own wD (w.heap.size + 1 + 1) 38 (cCam s ++ [.int .i64 s.log, .slice (some ⟨g, 0, none⟩) s.tex.length s.tex.length, .slice P1 s.ps.length pc1, .slice none 0 0, .int .i64 0])) := Lib.hid (Own.step hbD HD2a.out)
  have HE1 : Hid (Own wD (w.heap.size + 1) 38 zS) := Lib.hid (Own.step hbD HD1a.out)
  have HE0 : Hid (Own wD w.heap.size 30 (cS s T tc P pc Q qc)) := Lib.hid (Own.step hbD HD0a.out)
  have HTXD : Hid (RS wD 1 (some ⟨g, 0, none⟩) s.tex.length s.tex.length (ints s.tex)) := Lib.hid (HTXC.out.up HLT.out (Up.step hbD HUa.out))
  have HRD : Hid (RowL progE (w.heap.size + 1 + 1 + 1) wD (.slice P1 s.ps.length pc1) s.ps) := Lib.hid (HRC.out.keep (Up.step hbD HUa.out))
  have HSD : Hid (RowL surfE (w.heap.size + 1 + 1 + 1) wD (.slice Q1 s.ss.length qc1) s.ss) := Lib.hid (hrD.mono (by rw [hza]; omega))
  have HBD : Hid (Below w.heap.size w wD) := Lib.hid (Below.step hbD HBa.out HBa.out.size)
  have t11 : wD.cell? ⟨w.heap.size, 11, none⟩ = some (.int .i64 s.side) := HE0.out.cell 11
  have y10 : wD.cell? ⟨(w.heap.size + 1 + 1), 10, none⟩ = some (.slice none 0 0) := HE2.out.cell 10
  have y11 : wD.cell? ⟨(w.heap.size + 1 + 1), 11, none⟩ = some (.int .i64 0) := HE2.out.cell 11
  have f10 : wD.frozen? ⟨(w.heap.size + 1 + 1), 10, none⟩ = false := HE2.out.frozen 10
  have f11 : wD.frozen? ⟨(w.heap.size + 1 + 1), 11, none⟩ = false := HE2.out.frozen 11
  have lD : w.heap.size + 1 + 1 < wD.heap.size := HE2.out.lt
  clear hbD hrD HD2a HD1a HD0a HBa HUa HC0 HC1 HC2 HTXC HRC t10 y9 f9 hza lC
  have HF2 : Hid (Own ((wD.setCell ⟨(w.heap.size + 1 + 1), 10, none⟩ (.slice Q1 s.ss.length qc1)).setCell ⟨(w.heap.size + 1 + 1), 11, none⟩ (.int .i64 s.side)) (w.heap.size + 1 + 1) 38 (cS s (some ⟨g, 0, none⟩) s.tex.length P1 pc1 Q1 qc1)) := Lib.hid ((HE2.out.set_ 10 (.slice Q1 s.ss.length qc1)).set_ 11 (.int .i64 s.side))
  have HF1 : Hid (Own ((wD.setCell ⟨(w.heap.size + 1 + 1), 10, none⟩ (.slice Q1 s.ss.length qc1)).setCell ⟨(w.heap.size + 1 + 1), 11, none⟩ (.int .i64 s.side)) (w.heap.size + 1) 38 zS) := Lib.hid ((HE1.out.far (p := ⟨(w.heap.size + 1 + 1), 10, none⟩) (by show w.heap.size + 1 ≠ w.heap.size + 1 + 1; omega) _).far (p := ⟨(w.heap.size + 1 + 1), 11, none⟩) (by show w.heap.size + 1 ≠ w.heap.size + 1 + 1; omega) _)
  have HUF : Hid (Up (w.heap.size + 1 + 1 + 1) wD ((wD.setCell ⟨(w.heap.size + 1 + 1), 10, none⟩ (.slice Q1 s.ss.length qc1)).setCell ⟨(w.heap.size + 1 + 1), 11, none⟩ (.int .i64 s.side))) := Lib.hid (Up.setCell (Up.setCell (Up.refl _ _) (by show w.heap.size + 1 + 1 < _; omega) _) (by show w.heap.size + 1 + 1 < _; omega) _)
  have HBF : Hid (Below w.heap.size w ((wD.setCell ⟨(w.heap.size + 1 + 1), 10, none⟩ (.slice Q1 s.ss.length qc1)).setCell ⟨(w.heap.size + 1 + 1), 11, none⟩ (.int .i64 s.side))) := Lib.hid ((HBD.out.setCell (p := ⟨(w.heap.size + 1 + 1), 10, none⟩) (by show w.heap.size ≤ w.heap.size + 1 + 1; omega) _).setCell (p := ⟨(w.heap.size + 1 + 1), 11, none⟩) (by show w.heap.size ≤ w.heap.size + 1 + 1; omega) _)
  have HLD4 : Hid ((Instr.loadAt 38 (.pointer (some ⟨(w.heap.size + 1 + 1), 0, none⟩))).run Tryz.prog ((wD.setCell ⟨(w.heap.size + 1 + 1), 10, none⟩ (.slice Q1 s.ss.length qc1)).setCell ⟨(w.heap.size + 1 + 1), 11, none⟩ (.int .i64 s.side)) = .ok (.agg ⟨cS s (some ⟨g, 0, none⟩) s.tex.length P1 pc1 Q1 qc1⟩) _) := Lib.hid (loadAt_cells (P := Tryz.prog) Tryz.underlying38 rfl zz_sceneI (fun j v hv => by rw [Nat.zero_add, HF2.out.cell]; exact hv))
  obtain ⟨w5, hst5, hs5, hbk5, hs6, g1, g2, g3⟩ := store_big (P := Tryz.prog) (T := 38) (zs := cS s (some ⟨g, 0, none⟩) s.tex.length P1 pc1 Q1 qc1) (k := 0) HF1.out zz_sceneI (by show 12 ≤ 12; omega) (by rfl)
  have HST5 := Lib.hid hst5
  have HR : Hid (w5.heap[w.heap.size + 1]? = some (.cells ⟨cS s (some ⟨g, 0, none⟩) s.tex.length P1 pc1 Q1 qc1⟩ 38 (0, 0))) := Lib.hid (by have := hs5; unfold Own at this; rw [this]; rfl)
  have HU5 : Hid (Up (w.heap.size + 1 + 1 + 1) wD w5) := Lib.hid (Up.trans HUF.out ⟨by omega, fun b h _ => hbk5 b (by omega)⟩)
  have HB5 : Hid (Below w.heap.size w w5) := Lib.hid (Below.trans HBF.out ⟨g1, g2, g3, by omega, fun b h => hbk5 b (by omega)⟩)
  have HSL : Hid (SceneL w.heap.size w5 s (some ⟨g, 0, none⟩) s.tex.length P1 pc1 Q1 qc1) := Lib.hid ⟨HTXD.out.up HLT.out HU5.out, fun x hx => Nat.le_trans (by omega) (HLT.out x hx), (HRD.out.keep HU5.out).mono (by omega), (HSD.out.keep HU5.out).mono (by omega)⟩
  clear hst5 hs5 hbk5 hs6 g1 g2 g3 HTXD HRD HSD
  go_wp2_with (first | (refine wpList_loadE rfl 38 (.tmp 3) rfl rfl HLD4.out ?_) | (refine wpList_storeE rfl 38 (.tmp 2) (.tmp 23) rfl rfl rfl HST5.out ?_) | fail)
  exact bodyPost_ret (v := .agg ⟨cS s (some ⟨g, 0, none⟩) s.tex.length P1 pc1 Q1 qc1⟩) (results_cell_row Tryz.results7 _ _ (w.heap.size + 1) _ _ (0, 0) _ rfl HR.out Tryz.underlying38 rfl (by kernel_rfl)) rfl ⟨_, _, _, _, _, _, rfl, HSL.out, HB5.out⟩
set_option maxHeartbeats 16000000 in
theorem L_eqScene {lo lo' : Nat} {s : EScene} {T P Q T2 P2 Q2 : Option Addr} {tc pc qc tc2 pc2 qc2 : Nat} (w : World) (h : SceneL lo w s T tc P pc Q qc) (h' : SceneL lo' w s T2 tc2 P2 pc2 Q2 qc2) :
    Calls Tryz.prog 9 #[.agg ⟨cS s T tc P pc Q qc⟩, .agg ⟨cS s T2 tc2 P2 pc2 Q2 qc2⟩] w fun e w' => e = .returned (.bool true) ∧ Below w.heap.size w w' := by
  have HCAM : Hid (∀ wx, Calls Tryz.prog 25 #[.agg ⟨cCam s⟩, .agg ⟨cCam s⟩] wx fun e w' => e = .returned (.bool true) ∧ Below wx.heap.size wx w') := Lib.hid (fun wx => L_eqCamera s.a s.b s.c s.d s.e s.f s.g wx)
  have HTEX : Hid (∀ wx, Below w.heap.size w wx → Calls Tryz.prog 26 #[.agg ⟨[.int .i64 s.log, .slice T s.tex.length tc]⟩, .agg ⟨[.int .i64 s.log, .slice T2 s.tex.length tc2]⟩] wx fun e w' => e = .returned (.bool true) ∧ Below wx.heap.size wx w') := Lib.hid (fun wx hb => L_eqTexture wx (RS.step hb h.tex) (RS.step hb h'.tex))
  have HPS : Hid (∀ wx, Below w.heap.size w wx → Calls Tryz.prog 27 #[.slice P s.ps.length pc, .slice P2 s.ps.length pc2] wx fun e w' => e = .returned (.bool true) ∧ Below wx.heap.size wx w') := Lib.hid (fun wx hb => L_eqProgramS wx (h.ps.step hb) (h'.ps.step hb))
  have HSS : Hid (∀ wx, Below w.heap.size w wx → Calls Tryz.prog 28 #[.slice Q s.ss.length qc, .slice Q2 s.ss.length qc2] wx fun e w' => e = .returned (.bool true) ∧ Below wx.heap.size wx w') := Lib.hid (fun wx hb => L_eqSurfaceS wx (h.ss.step hb) (h'.ss.step hb))
  have HA0 : Hid (Own ((w.alloc (.cells ⟨cS s T tc P pc Q qc⟩ 38)).alloc (.cells ⟨cS s T2 tc2 P2 pc2 Q2 qc2⟩ 38)) w.heap.size 38 (cS s T tc P pc Q qc)) := Lib.hid (Own.alloc (Own.new w _ _) _)
  have HA1 : Hid (Own ((w.alloc (.cells ⟨cS s T tc P pc Q qc⟩ 38)).alloc (.cells ⟨cS s T2 tc2 P2 pc2 Q2 qc2⟩ 38)) (w.heap.size + 1) 38 (cS s T2 tc2 P2 pc2 Q2 qc2)) := Lib.hid (Own.at_new (cs := ⟨cS s T2 tc2 P2 pc2 Q2 qc2⟩) (by simp))
  have HLC : Hid (∀ wx b (T : Option Addr) tc P pc Q qc, Own wx b 38 (cS s T tc P pc Q qc) → (Instr.loadAt 33 (.pointer (some ⟨b, 0, none⟩))).run Tryz.prog wx = .ok (.agg ⟨cCam s⟩) wx) := Lib.hid (fun wx b T tc P pc Q qc ho => loadAt_cells (P := Tryz.prog) Tryz.underlying33 rfl zz_camI (fun j v hv => by rw [Nat.zero_add, ho.cell]; exact cS_cam hv))
  have HLT : Hid (∀ wx b (T : Option Addr) tc P pc Q qc, Own wx b 38 (cS s T tc P pc Q qc) → (Instr.loadAt 34 (.pointer (some ⟨b, 7, none⟩))).run Tryz.prog wx = .ok (.agg ⟨[.int .i64 s.log, .slice T s.tex.length tc]⟩) wx) := Lib.hid (fun wx b T tc P pc Q qc ho => loadAt_cells (P := Tryz.prog) Tryz.underlying34 rfl zz_texI (fun j v hv => by rw [ho.cell]; exact cS_tex hv))
  have e1 : (s.side != s.side) = false := by simp
  clear h h'
  go_enter Tryz.func9, Tryz.ntmps9
  go_wp2_with (first | (refine wpList_loadE rfl 33 (.tmp 5) rfl rfl (HLC.out _ _ _ _ _ _ _ _ HA0.out) ?_) | (refine wpList_loadE rfl 33 (.tmp 7) rfl rfl (HLC.out _ _ _ _ _ _ _ _ HA1.out) ?_) | fail)
  refine (HCAM.out _).mono ?_
  rintro e wB ⟨rfl, hbB⟩
  have HB0 : Hid (Own wB w.heap.size 38 (cS s T tc P pc Q qc)) := Lib.hid (Own.step hbB HA0.out)
  have HB1 : Hid (Own wB (w.heap.size + 1) 38 (cS s T2 tc2 P2 pc2 Q2 qc2)) := Lib.hid (Own.step hbB HA1.out)
  have HBB : Hid (Below w.heap.size w wB) := Lib.hid (Below.step hbB (by repeat (first | (with_reducible exact Below.refl _ _) | (with_reducible assumption) | ((with_reducible refine Below.alloc ?_ ?_ _); rotate_left; (first | omega | (simp <;> omega))) | ((with_reducible refine Below.setCell ?_ ?_ _); rotate_left; (first | omega | (simp <;> omega))) | (with_reducible refine below_drewN ?_ _) | (with_reducible refine Below.drew ?_) | ((with_reducible refine Below.step (by assumption) ?_ ?_); rotate_left; (first | omega | (simp <;> omega))))) (by first | omega | (simp <;> omega)))
  clear hbB HA0 HA1
  go_wp2_with (first | (refine wpList_loadE rfl 34 (.tmp 11) rfl rfl (HLT.out _ _ _ _ _ _ _ _ HB0.out) ?_) | (refine wpList_loadE rfl 34 (.tmp 13) rfl rfl (HLT.out _ _ _ _ _ _ _ _ HB1.out) ?_) | fail)
  refine (HTEX.out _ HBB.out).mono ?_
  rintro e wC ⟨rfl, hbC⟩
  have HC0 : Hid (Own wC w.heap.size 38 (cS s T tc P pc Q qc)) := Lib.hid (Own.step hbC HB0.out)
  have HC1 : Hid (Own wC (w.heap.size + 1) 38 (cS s T2 tc2 P2 pc2 Q2 qc2)) := Lib.hid (Own.step hbC HB1.out)
  have HBC : Hid (Below w.heap.size w wC) := Lib.hid (Below.step hbC HBB.out HBB.out.size)
  have t9 : wC.cell? ⟨w.heap.size, 9, none⟩ = some (.slice P s.ps.length pc) := HC0.out.cell 9
  have u9 : wC.cell? ⟨w.heap.size + 1, 9, none⟩ = some (.slice P2 s.ps.length pc2) := HC1.out.cell 9
  have lC : w.heap.size + 1 < wC.heap.size := HC1.out.lt
  clear hbC HB0 HB1
  go_wp2_with fail
  refine (HPS.out _ HBC.out).mono ?_
  rintro e wD ⟨rfl, hbD⟩
  have HD0 : Hid (Own wD w.heap.size 38 (cS s T tc P pc Q qc)) := Lib.hid (Own.step hbD HC0.out)
  have HD1 : Hid (Own wD (w.heap.size + 1) 38 (cS s T2 tc2 P2 pc2 Q2 qc2)) := Lib.hid (Own.step hbD HC1.out)
  have HBD : Hid (Below w.heap.size w wD) := Lib.hid (Below.step hbD HBC.out HBC.out.size)
  have t10 : wD.cell? ⟨w.heap.size, 10, none⟩ = some (.slice Q s.ss.length qc) := HD0.out.cell 10
  have u10 : wD.cell? ⟨w.heap.size + 1, 10, none⟩ = some (.slice Q2 s.ss.length qc2) := HD1.out.cell 10
  have lD : w.heap.size + 1 < wD.heap.size := HD1.out.lt
  clear hbD HC0 HC1 t9 u9 lC
  go_wp2_with fail
  refine (HSS.out _ HBD.out).mono ?_
  rintro e wE ⟨rfl, hbE⟩
  have HE0 : Hid (Own wE w.heap.size 38 (cS s T tc P pc Q qc)) := Lib.hid (Own.step hbE HD0.out)
  have HE1 : Hid (Own wE (w.heap.size + 1) 38 (cS s T2 tc2 P2 pc2 Q2 qc2)) := Lib.hid (Own.step hbE HD1.out)
  have HBE : Hid (Below w.heap.size w wE) := Lib.hid (Below.step hbE HBD.out HBD.out.size)
  have t11 : wE.cell? ⟨w.heap.size, 11, none⟩ = some (.int .i64 s.side) := HE0.out.cell 11
  have u11 : wE.cell? ⟨w.heap.size + 1, 11, none⟩ = some (.int .i64 s.side) := HE1.out.cell 11
  have lE : w.heap.size + 1 < wE.heap.size := HE1.out.lt
  clear hbE HD0 HD1 t10 u10 lD
  go_wp2_with fail
  go_ret
  exact ⟨rfl, HBE.out⟩
end Go.Proofs.YtjipfgadamokaaaGreatDoor
