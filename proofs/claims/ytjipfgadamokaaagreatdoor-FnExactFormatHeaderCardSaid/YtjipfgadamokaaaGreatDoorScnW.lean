/- MADE BY PROGRAM (genscn.py). IsValidScene. -/
import Derived.Test.YtjipfgadamokaaaGreatDoorSurfW
import Derived.Test.YtjipfgadamokaaaGreatDoorCheckI
import Derived.Test.YtjipfgadamokaaaGreatDoorMgD
set_option linter.unusedVariables false
set_option linter.unusedSimpArgs false
namespace Go.Proofs.YtjipfgadamokaaaGreatDoor
open Go.RowKit Go.Lib
set_option maxRecDepth 100000
theorem sceneOk_def (s : EScene) : sceneOk s = (validCam s.a s.b s.c s.d s.f s.g && (validTex s.log s.tex && (inB s.ps.length 1 3 && (decide (s.ss.length ≤ 5) && (sideB s.side && (shadTo s.ps s.ps.length && surfsTo s.ps.length s.ss s.ss.length)))))) := rfl
theorem side4 (r : Int) : (r = 1 ∧ sideB r = true) ∨ (r = 2 ∧ sideB r = true) ∨ (r = 4 ∧ sideB r = true) ∨ ((r == 1) = false ∧ (r == 2) = false ∧ (r == 4) = false ∧ sideB r = false) := by
  by_cases h1 : r = 1
  · subst h1; left; exact ⟨rfl, rfl⟩
  · by_cases h2 : r = 2
    · subst h2; right; left; exact ⟨rfl, rfl⟩
    · by_cases h4 : r = 4
      · subst h4; right; right; left; exact ⟨rfl, rfl⟩
      · right; right; right
        refine ⟨by simpa using h1, by simpa using h2, by simpa using h4, ?_⟩
        unfold sideB; simp [h1, h2, h4]
set_option maxHeartbeats 32000000 in
theorem S_IsValidScene {s : EScene} {T P Q : Option Addr} {tc pc qc : Nat} (w : World) (h : SceneIn w s T tc P pc Q qc) :
    Calls Tryz.prog 15 #[vScene s T tc P pc Q qc] w fun e w' => e = .returned (.bool (sceneOk s)) ∧ Below w.heap.size w w' := by
  have H0 := Lib.hid h
  have HD := Lib.hid (sceneOk_def s)
  have hpl : s.ps.length ≤ 9223372036854775807 := by have h1 := h.ps.1; have h2 := h.ps.2.1; unfold maxLen at h2; omega
  have hsl : s.ss.length ≤ 9223372036854775807 := by have h1 := h.ss.1; have h2 := h.ss.2.1; unfold maxLen at h2; omega
  have HCAM : Hid (∀ b, validCam s.a s.b s.c s.d s.f s.g = b → ∀ wx, Calls Tryz.prog 37 #[vCamera s.a s.b s.c s.d s.e s.f s.g] wx fun e w' => e = .returned (.bool b) ∧ Below wx.heap.size wx w') := Lib.hid (fun b hb wx => by subst hb; exact S_IsValidCamera wx)
  have HTEX : Hid (∀ b, validTex s.log s.tex = b → ∀ wx, Below w.heap.size w wx → Calls Tryz.prog 38 #[vTexture s.log (.slice T s.tex.length tc)] wx fun e w' => e = .returned (.bool b) ∧ Below wx.heap.size wx w') := Lib.hid (fun b hb wx hbx => by subst hb; exact S_IsValidTexture wx (RS.step hbx h.tex))
  have HPZ : Hid (Own (w.alloc (.cells #[.int .i64 s.a, .int .i64 s.b, .int .i64 s.c, .int .i64 s.d, .bool s.e, .int .i64 s.f, .int .i64 s.g, .int .i64 s.log, .slice T s.tex.length tc, .slice P s.ps.length pc, .slice Q s.ss.length qc, .int .i64 s.side] 38)) w.heap.size 38 [.int .i64 s.a, .int .i64 s.b, .int .i64 s.c, .int .i64 s.d, .bool s.e, .int .i64 s.f, .int .i64 s.g, .int .i64 s.log, .slice T s.tex.length tc, .slice P s.ps.length pc, .slice Q s.ss.length qc, .int .i64 s.side]) := Lib.hid (Own.new w _ #[_, _, _, _, _, _, _, _, _, _, _, _])
  clear h
  go_enter Tryz.func15, Tryz.ntmps15
  go_wp2_with fail
  go_loopw [4, 5, 6, 13] (fun _ _ _ i wr => ∃ k : Nat, k ≤ s.ps.length ∧ i = .int .i64 k ∧ shadTo s.ps k = true ∧ Own wr w.heap.size 38 [.int .i64 s.a, .int .i64 s.b, .int .i64 s.c, .int .i64 s.d, .bool s.e, .int .i64 s.f, .int .i64 s.g, .int .i64 s.log, .slice T s.tex.length tc, .slice P s.ps.length pc, .slice Q s.ss.length qc, .int .i64 s.side] ∧ Below w.heap.size w wr) (fun _ _ _ i _ => s.ps.length - (RowKit.intOf i).toNat)
  case atStart => exact ⟨0, Nat.zero_le _, rfl, rfl, HPZ.out, (by repeat (first | (with_reducible exact Below.refl _ _) | (with_reducible assumption) | ((with_reducible refine Below.alloc ?_ ?_ _); rotate_left; (first | omega | (simp <;> omega))) | ((with_reducible refine Below.setCell ?_ ?_ _); rotate_left; (first | omega | (simp <;> omega))) | (with_reducible refine below_drewN ?_ _) | (with_reducible refine Below.drew ?_) | ((with_reducible refine Below.step (by assumption) ?_ ?_); rotate_left; (first | omega | (simp <;> omega)))))⟩
  case round =>
    obtain ⟨k, hk, rfl, hsh, hp, hb⟩ := hrel
    obtain ⟨wo, rfl⟩ : ∃ wo, wo = wr := ⟨_, rfl⟩
    have hz := hb.size
    have hl := hp.lt
    have HSH := Lib.hid hsh
    have HP := Lib.hid hp
    have HB := Lib.hid hb
    have u0 : wo.cell? ⟨w.heap.size, 0, none⟩ = some (.int .i64 s.a) := hp.cell 0
    have u1 : wo.cell? ⟨w.heap.size, 1, none⟩ = some (.int .i64 s.b) := hp.cell 1
    have u2 : wo.cell? ⟨w.heap.size, 2, none⟩ = some (.int .i64 s.c) := hp.cell 2
    have u3 : wo.cell? ⟨w.heap.size, 3, none⟩ = some (.int .i64 s.d) := hp.cell 3
    have u4 : wo.cell? ⟨w.heap.size, 4, none⟩ = some (.bool s.e) := hp.cell 4
    have u5 : wo.cell? ⟨w.heap.size, 5, none⟩ = some (.int .i64 s.f) := hp.cell 5
    have u6 : wo.cell? ⟨w.heap.size, 6, none⟩ = some (.int .i64 s.g) := hp.cell 6
    have u7 : wo.cell? ⟨w.heap.size, 7, none⟩ = some (.int .i64 s.log) := hp.cell 7
    have u8 : wo.cell? ⟨w.heap.size, 8, none⟩ = some (.slice T s.tex.length tc) := hp.cell 8
    have u9 : wo.cell? ⟨w.heap.size, 9, none⟩ = some (.slice P s.ps.length pc) := hp.cell 9
    have u10 : wo.cell? ⟨w.heap.size, 10, none⟩ = some (.slice Q s.ss.length qc) := hp.cell 10
    have u11 : wo.cell? ⟨w.heap.size, 11, none⟩ = some (.int .i64 s.side) := hp.cell 11
    clear hp hb hsh
    by_cases hlt : k < s.ps.length
    · obtain ⟨b, o, A1, c1, A2, c2, rfl, hbh, hpi, hn1, hn2, x0, x1⟩ := H0.out.ps.2.2 k hlt
      have y0 := (HB.out.cell (p := ⟨b, o + k * 2, none⟩) hbh).trans x0
      have y1 := (HB.out.cell (p := ⟨b, o + k * 2 + 1, none⟩) hbh).trans x1
      have HSU := Lib.hid (shadTo_succ hlt)
      have HNO := Lib.hid (shadTo_no hlt)
      obtain ⟨x, hx⟩ : ∃ x, s.ps[k] = x := ⟨_, rfl⟩
      rw [hx] at y0 y1 HSU HNO hpi hn1 hn2
      have HC : Hid (∀ wx, Below w.heap.size w wx → Calls Tryz.prog 35 #[vProg A1 x.1.length c1 A2 x.2.length c2] wx (OutCheck (checkOk x) wx)) := Lib.hid (fun wx hbx => S_Check wx (hpi.step hbx) hn1 hn2)
      have hwn : ¬ wo.heap.size = w.heap.size := by omega
      have hwn2 : ¬ w.heap.size = wo.heap.size := by omega
      have j1 : (k : Int) < s.ps.length := by omega
      have j2 : (0 : Int) ≤ k := by omega
      clear hpi hx x0 x1
      cases hok : checkOk x with
      | false =>
        have HF : Hid (sceneOk s = false) := Lib.hid (by rw [HD.out, HNO.out hok]; simp)
        go_wp2_with (first | (go_at_call 35; (with_reducible refine (HC.out _ (by repeat (first | (with_reducible exact Below.refl _ _) | (with_reducible exact HB.out) | (with_reducible assumption) | ((with_reducible refine Below.alloc ?_ ?_ _); rotate_left; (first | omega | (simp <;> omega))) | ((with_reducible refine Below.setCell ?_ ?_ _); rotate_left; (first | omega | (simp <;> omega))) | (with_reducible refine below_drewN ?_ _) | (with_reducible refine Below.drew ?_) | ((with_reducible refine Below.step (by assumption) ?_ ?_); rotate_left; (first | omega | (simp <;> omega)))))).mono ?_); rintro e wK ⟨⟨xk, yk, rfl, hxk⟩, hbK⟩; rw [hok] at hxk; have hxk2 := of_decide_eq_false hxk; have hne : (xk != 0) = true := (by simpa using hxk2); have HBK : Hid (Below w.heap.size w wK) := Lib.hid (Below.step hbK (by repeat (first | (with_reducible exact Below.refl _ _) | (with_reducible exact HB.out) | (with_reducible assumption) | ((with_reducible refine Below.alloc ?_ ?_ _); rotate_left; (first | omega | (simp <;> omega))) | ((with_reducible refine Below.setCell ?_ ?_ _); rotate_left; (first | omega | (simp <;> omega))) | (with_reducible refine below_drewN ?_ _) | (with_reducible refine Below.drew ?_) | ((with_reducible refine Below.step (by assumption) ?_ ?_); rotate_left; (first | omega | (simp <;> omega))))) (by first | omega | (simp <;> omega))); have HPK : Hid (Own wK w.heap.size 38 [.int .i64 s.a, .int .i64 s.b, .int .i64 s.c, .int .i64 s.d, .bool s.e, .int .i64 s.f, .int .i64 s.g, .int .i64 s.log, .slice T s.tex.length tc, .slice (some ⟨b, o, none⟩) s.ps.length pc, .slice Q s.ss.length qc, .int .i64 s.side]) := Lib.hid (Own.step hbK (by repeat (first | (with_reducible exact HP.out) | ((with_reducible refine Own.far ?_ ?_ _); rotate_left; (first | omega | (simp <;> omega))) | (with_reducible refine Own.alloc ?_ _) | (with_reducible refine Own.drewN ?_ _) | (with_reducible refine Own.drew ?_) | (with_reducible refine Own.step (by assumption) ?_)))); clear hbK hxk) | fail)
        go_ret
        exact ⟨ret_bool HF.out.symm, HBK.out⟩
      | true =>
        have HK : Hid (shadTo s.ps (k + 1) = true) := Lib.hid (by rw [HSU.out, HSH.out, hok]; rfl)
        go_wp2_with (first | (go_at_call 35; (with_reducible refine (HC.out _ (by repeat (first | (with_reducible exact Below.refl _ _) | (with_reducible exact HB.out) | (with_reducible assumption) | ((with_reducible refine Below.alloc ?_ ?_ _); rotate_left; (first | omega | (simp <;> omega))) | ((with_reducible refine Below.setCell ?_ ?_ _); rotate_left; (first | omega | (simp <;> omega))) | (with_reducible refine below_drewN ?_ _) | (with_reducible refine Below.drew ?_) | ((with_reducible refine Below.step (by assumption) ?_ ?_); rotate_left; (first | omega | (simp <;> omega)))))).mono ?_); rintro e wK ⟨⟨xk, yk, rfl, hxk⟩, hbK⟩; rw [hok] at hxk; have hxk2 := of_decide_eq_true hxk; subst hxk2; have HBK : Hid (Below w.heap.size w wK) := Lib.hid (Below.step hbK (by repeat (first | (with_reducible exact Below.refl _ _) | (with_reducible exact HB.out) | (with_reducible assumption) | ((with_reducible refine Below.alloc ?_ ?_ _); rotate_left; (first | omega | (simp <;> omega))) | ((with_reducible refine Below.setCell ?_ ?_ _); rotate_left; (first | omega | (simp <;> omega))) | (with_reducible refine below_drewN ?_ _) | (with_reducible refine Below.drew ?_) | ((with_reducible refine Below.step (by assumption) ?_ ?_); rotate_left; (first | omega | (simp <;> omega))))) (by first | omega | (simp <;> omega))); have HPK : Hid (Own wK w.heap.size 38 [.int .i64 s.a, .int .i64 s.b, .int .i64 s.c, .int .i64 s.d, .bool s.e, .int .i64 s.f, .int .i64 s.g, .int .i64 s.log, .slice T s.tex.length tc, .slice (some ⟨b, o, none⟩) s.ps.length pc, .slice Q s.ss.length qc, .int .i64 s.side]) := Lib.hid (Own.step hbK (by repeat (first | (with_reducible exact HP.out) | ((with_reducible refine Own.far ?_ ?_ _); rotate_left; (first | omega | (simp <;> omega))) | (with_reducible refine Own.alloc ?_ _) | (with_reducible refine Own.drewN ?_ _) | (with_reducible refine Own.drew ?_) | (with_reducible refine Own.step (by assumption) ?_)))); clear hbK hxk) | fail)
        go_roundw
        case rel => exact ⟨k + 1, by omega, by go_num, HK.out, HPK.out, HBK.out⟩
        case measure => simp [RowKit.intOf] <;> omega
    · obtain rfl : k = s.ps.length := by omega
      go_wp2_with fail
      go_loopw [8, 28] (fun _ i wr => ∃ k : Nat, k ≤ s.ss.length ∧ i = .int .i64 k ∧ surfsTo s.ps.length s.ss k = true ∧ Own wr w.heap.size 38 [.int .i64 s.a, .int .i64 s.b, .int .i64 s.c, .int .i64 s.d, .bool s.e, .int .i64 s.f, .int .i64 s.g, .int .i64 s.log, .slice T s.tex.length tc, .slice P s.ps.length pc, .slice Q s.ss.length qc, .int .i64 s.side] ∧ Below w.heap.size w wr) (fun _ i _ => s.ss.length - (RowKit.intOf i).toNat)
      case atStart => exact ⟨0, Nat.zero_le _, rfl, rfl, HP.out, HB.out⟩
      case round =>
        obtain ⟨k2, hk2, rfl, hss, hp2, hb2⟩ := hrel
        obtain ⟨wi, rfl⟩ : ∃ wi, wi = wr := ⟨_, rfl⟩
        have hz2 := hb2.size
        have hl2 := hp2.lt
        have HSS := Lib.hid hss
        have HP2 := Lib.hid hp2
        have HB2 := Lib.hid hb2
        have v0 : wi.cell? ⟨w.heap.size, 0, none⟩ = some (.int .i64 s.a) := hp2.cell 0
        have v1 : wi.cell? ⟨w.heap.size, 1, none⟩ = some (.int .i64 s.b) := hp2.cell 1
        have v2 : wi.cell? ⟨w.heap.size, 2, none⟩ = some (.int .i64 s.c) := hp2.cell 2
        have v3 : wi.cell? ⟨w.heap.size, 3, none⟩ = some (.int .i64 s.d) := hp2.cell 3
        have v4 : wi.cell? ⟨w.heap.size, 4, none⟩ = some (.bool s.e) := hp2.cell 4
        have v5 : wi.cell? ⟨w.heap.size, 5, none⟩ = some (.int .i64 s.f) := hp2.cell 5
        have v6 : wi.cell? ⟨w.heap.size, 6, none⟩ = some (.int .i64 s.g) := hp2.cell 6
        have v7 : wi.cell? ⟨w.heap.size, 7, none⟩ = some (.int .i64 s.log) := hp2.cell 7
        have v8 : wi.cell? ⟨w.heap.size, 8, none⟩ = some (.slice T s.tex.length tc) := hp2.cell 8
        have v9 : wi.cell? ⟨w.heap.size, 9, none⟩ = some (.slice P s.ps.length pc) := hp2.cell 9
        have v10 : wi.cell? ⟨w.heap.size, 10, none⟩ = some (.slice Q s.ss.length qc) := hp2.cell 10
        have v11 : wi.cell? ⟨w.heap.size, 11, none⟩ = some (.int .i64 s.side) := hp2.cell 11
        clear hp2 hb2 hss
        by_cases hlt2 : k2 < s.ss.length
        · obtain ⟨b, o, rfl, hbh, hsf⟩ := H0.out.ss.2.2 k2 hlt2
          have hsw := hsf.below HB2.out hbh
          have HSU := Lib.hid (surfsTo_succ (n := s.ps.length) hlt2)
          have HNO := Lib.hid (surfsTo_no (n := s.ps.length) hlt2)
          obtain ⟨⟨p, q, sh, rt⟩, hx⟩ : ∃ x, s.ss[k2] = x := ⟨_, rfl⟩
          rw [hx] at hsw HSU HNO
          (try dsimp only at hsw)
          obtain ⟨w1, w2, V, hV, hld, hal, hst, hlv, hz3, hbw, _⟩ := surf_box hsw
          have HLD := Lib.hid hld
          have HAL := Lib.hid hal
          have HST := Lib.hid hst
          have HLV := Lib.hid hlv
          have HV := Lib.hid hV
          have HBW : Hid (Below w.heap.size w w2) := Lib.hid (Below.step hbw HB2.out HB2.out.size)
          have HPW : Hid (Own w2 w.heap.size 38 [.int .i64 s.a, .int .i64 s.b, .int .i64 s.c, .int .i64 s.d, .bool s.e, .int .i64 s.f, .int .i64 s.g, .int .i64 s.log, .slice T s.tex.length tc, .slice P s.ps.length pc, .slice (some ⟨b, o, none⟩) s.ss.length qc, .int .i64 s.side]) := Lib.hid (Own.step hbw HP2.out)
          have x9 : w2.cell? ⟨w.heap.size, 9, none⟩ = some (.slice P s.ps.length pc) := HPW.out.cell 9
          clear hsw hV hld hal hst hlv hbw
          have hwn : ¬ wi.heap.size = w.heap.size := by omega
          have hwn2 : ¬ w.heap.size = wi.heap.size := by omega
          have j1 : (k2 : Int) < s.ss.length := by omega
          have j2 : (0 : Int) ≤ k2 := by omega
          clear hsf hx
          cases hok : surfOk s.ps.length (p, q, sh, rt) with
          | false =>
            have HF : Hid (sceneOk s = false) := Lib.hid (by rw [HD.out, HNO.out hok]; simp)
            have HC : Hid (∀ wx, Calls Tryz.prog 36 #[V, .int .i64 s.ps.length] wx fun e w' => e = .returned (.bool false) ∧ Below wx.heap.size wx w') := Lib.hid (fun wx => by rw [HV.out]; have := S_IsValidSurface p q sh rt s.ps.length wx; rw [hok] at this; exact this)
            go_wp2_with (first | (refine wpList_loadE rfl 79 (.tmp 30) rfl rfl HLD.out ?_) | (refine wpList_allocE rfl 79 rfl HAL.out ?_) | (refine wpList_storeE rfl 79 (.tmp 8) (.tmp 31) rfl rfl rfl HST.out ?_) | (refine wpList_loadE rfl 79 (.tmp 8) rfl rfl HLV.out ?_) | (go_at_call 36; (with_reducible refine (HC.out _).mono ?_); rintro e wS ⟨rfl, hbwS⟩; have hzwS := hbwS.size; (try simp at hzwS); have HBwS : Hid (Below w.heap.size w wS) := Lib.hid (Below.step hbwS (by repeat (first | (with_reducible exact Below.refl _ _) | (with_reducible exact HBW.out) | (with_reducible assumption) | ((with_reducible refine Below.alloc ?_ ?_ _); rotate_left; (first | omega | (simp <;> omega))) | ((with_reducible refine Below.setCell ?_ ?_ _); rotate_left; (first | omega | (simp <;> omega))) | (with_reducible refine below_drewN ?_ _) | (with_reducible refine Below.drew ?_) | ((with_reducible refine Below.step (by assumption) ?_ ?_); rotate_left; (first | omega | (simp <;> omega))))) (by first | omega | (simp <;> omega))); clear hbwS) | fail)
            go_ret
            exact ⟨ret_bool HF.out.symm, HBwS.out⟩
          | true =>
            have HK : Hid (surfsTo s.ps.length s.ss (k2 + 1) = true) := Lib.hid (by rw [HSU.out, HSS.out, hok]; rfl)
            have HC : Hid (∀ wx, Calls Tryz.prog 36 #[V, .int .i64 s.ps.length] wx fun e w' => e = .returned (.bool true) ∧ Below wx.heap.size wx w') := Lib.hid (fun wx => by rw [HV.out]; have := S_IsValidSurface p q sh rt s.ps.length wx; rw [hok] at this; exact this)
            go_wp2_with (first | (refine wpList_loadE rfl 79 (.tmp 30) rfl rfl HLD.out ?_) | (refine wpList_allocE rfl 79 rfl HAL.out ?_) | (refine wpList_storeE rfl 79 (.tmp 8) (.tmp 31) rfl rfl rfl HST.out ?_) | (refine wpList_loadE rfl 79 (.tmp 8) rfl rfl HLV.out ?_) | (go_at_call 36; (with_reducible refine (HC.out _).mono ?_); rintro e wS ⟨rfl, hbS⟩; have HPS : Hid (Own wS w.heap.size 38 [.int .i64 s.a, .int .i64 s.b, .int .i64 s.c, .int .i64 s.d, .bool s.e, .int .i64 s.f, .int .i64 s.g, .int .i64 s.log, .slice T s.tex.length tc, .slice P s.ps.length pc, .slice (some ⟨b, o, none⟩) s.ss.length qc, .int .i64 s.side]) := Lib.hid (Own.step hbS HPW.out); have HBS : Hid (Below w.heap.size w wS) := Lib.hid (Below.step hbS HBW.out HBW.out.size); clear hbS) | fail)
            go_roundw
            case rel => exact ⟨k2 + 1, by omega, by go_num, HK.out, HPS.out, HBS.out⟩
            case measure => simp [RowKit.intOf] <;> omega
        · obtain rfl : k2 = s.ss.length := by omega
          have HD2 : Hid (sceneOk s = (validCam s.a s.b s.c s.d s.f s.g && (validTex s.log s.tex && (inB s.ps.length 1 3 && (decide (s.ss.length ≤ 5) && sideB s.side))))) := Lib.hid (by rw [HD.out, HSH.out, HSS.out]; simp)
          have HIN : Hid (∀ b, inB s.ps.length 1 3 = b → ∀ wx, Calls Tryz.prog 29 #[.int .i64 s.ps.length, .int .i64 1, .int .i64 3] wx fun e w' => e = .returned (.bool b) ∧ wx = w') := Lib.hid (fun b hb wx => S_in_is hb wx)
          go_upto_region 14 with fail
          go_cut [9] (fun s9 wx => s9 = .bool (sideB s.side) ∧ wx = wi)
          case first =>
            rcases side4 s.side with ⟨hsd, hsb⟩ | ⟨hsd, hsb⟩ | ⟨hsd, hsb⟩ | ⟨hs1, hs2, hs4, hsb⟩
            · rw [hsd] at v11
              go_wp2_with fail
              go_meet
              exact ⟨by rw [hsb], rfl⟩
            · rw [hsd] at v11
              go_wp2_with fail
              go_meet
              exact ⟨by rw [hsb], rfl⟩
            · rw [hsd] at v11
              go_wp2_with fail
              go_meet
              exact ⟨by rw [hsb], rfl⟩
            · go_wp2_with fail
              go_meet
              exact ⟨by rw [hsb], rfl⟩
          case rest =>
          obtain ⟨rfl, rfl⟩ := hcut
          cases hsb : sideB s.side with
          | false =>
            have HF : Hid (sceneOk s = false) := Lib.hid (by rw [HD2.out, hsb]; simp)
            go_wp2_with fail
            go_ret
            exact ⟨ret_bool HF.out.symm, HB2.out⟩
          | true =>
            cases hcam : validCam s.a s.b s.c s.d s.f s.g with
            | false =>
              have HF : Hid (sceneOk s = false) := Lib.hid (by rw [HD2.out, hcam]; rfl)
              go_wp2_with (first | (go_at_call 37; (with_reducible refine (HCAM.out false hcam _).mono ?_); rintro e wC ⟨rfl, hbwC⟩; have hzwC := hbwC.size; (try simp at hzwC); have HBwC : Hid (Below w.heap.size w wC) := Lib.hid (Below.step hbwC (by repeat (first | (with_reducible exact Below.refl _ _) | (with_reducible exact HB2.out) | (with_reducible assumption) | ((with_reducible refine Below.alloc ?_ ?_ _); rotate_left; (first | omega | (simp <;> omega))) | ((with_reducible refine Below.setCell ?_ ?_ _); rotate_left; (first | omega | (simp <;> omega))) | (with_reducible refine below_drewN ?_ _) | (with_reducible refine Below.drew ?_) | ((with_reducible refine Below.step (by assumption) ?_ ?_); rotate_left; (first | omega | (simp <;> omega))))) (by first | omega | (simp <;> omega))); have dwC := fun o => hbwC.cell (p := ⟨w.heap.size, o, none⟩) (by first | omega | (simp <;> omega)); clear hbwC) | fail)
              go_ret
              exact ⟨ret_bool HF.out.symm, HBwC.out⟩
            | true =>
              cases htex : validTex s.log s.tex with
              | false =>
                have HF : Hid (sceneOk s = false) := Lib.hid (by rw [HD2.out, htex]; simp)
                go_wp2_with (first | (go_at_call 37; (with_reducible refine (HCAM.out true hcam _).mono ?_); rintro e wC ⟨rfl, hbwC⟩; have hzwC := hbwC.size; (try simp at hzwC); have HBwC : Hid (Below w.heap.size w wC) := Lib.hid (Below.step hbwC (by repeat (first | (with_reducible exact Below.refl _ _) | (with_reducible exact HB2.out) | (with_reducible assumption) | ((with_reducible refine Below.alloc ?_ ?_ _); rotate_left; (first | omega | (simp <;> omega))) | ((with_reducible refine Below.setCell ?_ ?_ _); rotate_left; (first | omega | (simp <;> omega))) | (with_reducible refine below_drewN ?_ _) | (with_reducible refine Below.drew ?_) | ((with_reducible refine Below.step (by assumption) ?_ ?_); rotate_left; (first | omega | (simp <;> omega))))) (by first | omega | (simp <;> omega))); have dwC := fun o => hbwC.cell (p := ⟨w.heap.size, o, none⟩) (by first | omega | (simp <;> omega)); clear hbwC) | (go_at_call 38; (with_reducible refine (HTEX.out false htex _ HBwC.out).mono ?_); rintro e wX ⟨rfl, hbwX⟩; have hzwX := hbwX.size; (try simp at hzwX); have HBwX : Hid (Below w.heap.size w wX) := Lib.hid (Below.step hbwX (by repeat (first | (with_reducible exact Below.refl _ _) | (with_reducible exact HBwC.out) | (with_reducible assumption) | ((with_reducible refine Below.alloc ?_ ?_ _); rotate_left; (first | omega | (simp <;> omega))) | ((with_reducible refine Below.setCell ?_ ?_ _); rotate_left; (first | omega | (simp <;> omega))) | (with_reducible refine below_drewN ?_ _) | (with_reducible refine Below.drew ?_) | ((with_reducible refine Below.step (by assumption) ?_ ?_); rotate_left; (first | omega | (simp <;> omega))))) (by first | omega | (simp <;> omega))); have dwX := fun o => hbwX.cell (p := ⟨w.heap.size, o, none⟩) (by first | omega | (simp <;> omega)); clear hbwX) | fail)
                go_ret
                exact ⟨ret_bool HF.out.symm, HBwX.out⟩
              | true =>
                cases hin : inB s.ps.length 1 3 with
                | false =>
                  have HF : Hid (sceneOk s = false) := Lib.hid (by rw [HD2.out, hin]; simp)
                  go_wp2_with (first | (go_at_call 37; (with_reducible refine (HCAM.out true hcam _).mono ?_); rintro e wC ⟨rfl, hbwC⟩; have hzwC := hbwC.size; (try simp at hzwC); have HBwC : Hid (Below w.heap.size w wC) := Lib.hid (Below.step hbwC (by repeat (first | (with_reducible exact Below.refl _ _) | (with_reducible exact HB2.out) | (with_reducible assumption) | ((with_reducible refine Below.alloc ?_ ?_ _); rotate_left; (first | omega | (simp <;> omega))) | ((with_reducible refine Below.setCell ?_ ?_ _); rotate_left; (first | omega | (simp <;> omega))) | (with_reducible refine below_drewN ?_ _) | (with_reducible refine Below.drew ?_) | ((with_reducible refine Below.step (by assumption) ?_ ?_); rotate_left; (first | omega | (simp <;> omega))))) (by first | omega | (simp <;> omega))); have dwC := fun o => hbwC.cell (p := ⟨w.heap.size, o, none⟩) (by first | omega | (simp <;> omega)); clear hbwC) | (go_at_call 38; (with_reducible refine (HTEX.out true htex _ HBwC.out).mono ?_); rintro e wX ⟨rfl, hbwX⟩; have hzwX := hbwX.size; (try simp at hzwX); have HBwX : Hid (Below w.heap.size w wX) := Lib.hid (Below.step hbwX (by repeat (first | (with_reducible exact Below.refl _ _) | (with_reducible exact HBwC.out) | (with_reducible assumption) | ((with_reducible refine Below.alloc ?_ ?_ _); rotate_left; (first | omega | (simp <;> omega))) | ((with_reducible refine Below.setCell ?_ ?_ _); rotate_left; (first | omega | (simp <;> omega))) | (with_reducible refine below_drewN ?_ _) | (with_reducible refine Below.drew ?_) | ((with_reducible refine Below.step (by assumption) ?_ ?_); rotate_left; (first | omega | (simp <;> omega))))) (by first | omega | (simp <;> omega))); have dwX := fun o => hbwX.cell (p := ⟨w.heap.size, o, none⟩) (by first | omega | (simp <;> omega)); clear hbwX) | (go_at_call 29; (with_reducible refine (HIN.out false hin _).mono ?_); rintro e w' ⟨rfl, rfl⟩) | fail)
                  go_ret
                  exact ⟨ret_bool HF.out.symm, HBwX.out⟩
                | true =>
                  have HF : Hid (sceneOk s = decide (s.ss.length ≤ 5)) := Lib.hid (by rw [HD2.out, hcam, htex, hin, hsb]; simp)
                  go_wp2_with (first | (go_at_call 37; (with_reducible refine (HCAM.out true hcam _).mono ?_); rintro e wC ⟨rfl, hbwC⟩; have hzwC := hbwC.size; (try simp at hzwC); have HBwC : Hid (Below w.heap.size w wC) := Lib.hid (Below.step hbwC (by repeat (first | (with_reducible exact Below.refl _ _) | (with_reducible exact HB2.out) | (with_reducible assumption) | ((with_reducible refine Below.alloc ?_ ?_ _); rotate_left; (first | omega | (simp <;> omega))) | ((with_reducible refine Below.setCell ?_ ?_ _); rotate_left; (first | omega | (simp <;> omega))) | (with_reducible refine below_drewN ?_ _) | (with_reducible refine Below.drew ?_) | ((with_reducible refine Below.step (by assumption) ?_ ?_); rotate_left; (first | omega | (simp <;> omega))))) (by first | omega | (simp <;> omega))); have dwC := fun o => hbwC.cell (p := ⟨w.heap.size, o, none⟩) (by first | omega | (simp <;> omega)); clear hbwC) | (go_at_call 38; (with_reducible refine (HTEX.out true htex _ HBwC.out).mono ?_); rintro e wX ⟨rfl, hbwX⟩; have hzwX := hbwX.size; (try simp at hzwX); have HBwX : Hid (Below w.heap.size w wX) := Lib.hid (Below.step hbwX (by repeat (first | (with_reducible exact Below.refl _ _) | (with_reducible exact HBwC.out) | (with_reducible assumption) | ((with_reducible refine Below.alloc ?_ ?_ _); rotate_left; (first | omega | (simp <;> omega))) | ((with_reducible refine Below.setCell ?_ ?_ _); rotate_left; (first | omega | (simp <;> omega))) | (with_reducible refine below_drewN ?_ _) | (with_reducible refine Below.drew ?_) | ((with_reducible refine Below.step (by assumption) ?_ ?_); rotate_left; (first | omega | (simp <;> omega))))) (by first | omega | (simp <;> omega))); have dwX := fun o => hbwX.cell (p := ⟨w.heap.size, o, none⟩) (by first | omega | (simp <;> omega)); clear hbwX) | (go_at_call 29; (with_reducible refine (HIN.out true hin _).mono ?_); rintro e w' ⟨rfl, rfl⟩) | fail)
                  all_goals go_ret
                  all_goals exact ⟨ret_bool (by rw [HF.out]; rw [Bool.eq_iff_iff]; simp <;> omega), HBwX.out⟩
set_option maxHeartbeats 32000000 in
theorem I_IsValidScene {s : EScene} {T P Q : Option Addr} {tc pc qc : Nat} (w : World) (h : SceneIn w s T tc P pc Q qc) :
    Calls Tryz.prog 22 #[vScene s T tc P pc Q qc] w fun e w' => e = .returned (.bool (sceneOk s)) ∧ Below w.heap.size w w' := by
  have H0 := Lib.hid h
  have HD := Lib.hid (sceneOk_def s)
  have hpl : s.ps.length ≤ 9223372036854775807 := by have h1 := h.ps.1; have h2 := h.ps.2.1; unfold maxLen at h2; omega
  have hsl : s.ss.length ≤ 9223372036854775807 := by have h1 := h.ss.1; have h2 := h.ss.2.1; unfold maxLen at h2; omega
  have HCAM : Hid (∀ b, validCam s.a s.b s.c s.d s.f s.g = b → ∀ wx, Calls Tryz.prog 50 #[vCamera s.a s.b s.c s.d s.e s.f s.g] wx fun e w' => e = .returned (.bool b) ∧ Below wx.heap.size wx w') := Lib.hid (fun b hb wx => by subst hb; exact I_IsValidCamera wx)
  have HTEX : Hid (∀ b, validTex s.log s.tex = b → ∀ wx, Below w.heap.size w wx → Calls Tryz.prog 51 #[vTexture s.log (.slice T s.tex.length tc)] wx fun e w' => e = .returned (.bool b) ∧ Below wx.heap.size wx w') := Lib.hid (fun b hb wx hbx => by subst hb; exact I_IsValidTexture wx (RS.step hbx h.tex))
  have HIN : Hid (∀ b, inB s.ps.length 1 3 = b → ∀ wx, Calls Tryz.prog 31 #[.int .i64 s.ps.length, .int .i64 1, .int .i64 3] wx fun e w' => e = .returned (.bool b) ∧ wx = w') := Lib.hid (fun b hb wx => I_within_is hb wx)
  have HSD : Hid (∀ b, sideB s.side = b → ∀ wx, Calls Tryz.prog 52 #[.int .i64 s.side] wx fun e w' => e = .returned (.bool b) ∧ wx = w') := Lib.hid (fun b hb wx => by subst hb; exact I_sideOk s.side wx)
  have HBZ : Hid (Below w.heap.size w w) := Lib.hid (Below.refl _ _)
  have HPZ : Hid (Own (w.alloc (.cells #[.int .i64 s.a, .int .i64 s.b, .int .i64 s.c, .int .i64 s.d, .bool s.e, .int .i64 s.f, .int .i64 s.g, .int .i64 s.log, .slice T s.tex.length tc, .slice P s.ps.length pc, .slice Q s.ss.length qc, .int .i64 s.side] 38)) w.heap.size 38 [.int .i64 s.a, .int .i64 s.b, .int .i64 s.c, .int .i64 s.d, .bool s.e, .int .i64 s.f, .int .i64 s.g, .int .i64 s.log, .slice T s.tex.length tc, .slice P s.ps.length pc, .slice Q s.ss.length qc, .int .i64 s.side]) := Lib.hid (Own.new w _ #[_, _, _, _, _, _, _, _, _, _, _, _])
  clear h
  cases hcam : validCam s.a s.b s.c s.d s.f s.g with
  | false =>
    have HF : Hid (sceneOk s = false) := Lib.hid (by rw [HD.out, hcam]; rfl)
    go_enter Tryz.func22, Tryz.ntmps22
    go_wp2_with (first | (go_at_call 50; (with_reducible refine (HCAM.out false hcam _).mono ?_); rintro e wC ⟨rfl, hbwC⟩; have hzwC := hbwC.size; (try simp at hzwC); have HBwC : Hid (Below w.heap.size w wC) := Lib.hid (Below.step hbwC (by repeat (first | (with_reducible exact Below.refl _ _) | (with_reducible exact HBZ.out) | (with_reducible assumption) | ((with_reducible refine Below.alloc ?_ ?_ _); rotate_left; (first | omega | (simp <;> omega))) | ((with_reducible refine Below.setCell ?_ ?_ _); rotate_left; (first | omega | (simp <;> omega))) | (with_reducible refine below_drewN ?_ _) | (with_reducible refine Below.drew ?_) | ((with_reducible refine Below.step (by assumption) ?_ ?_); rotate_left; (first | omega | (simp <;> omega))))) (by first | omega | (simp <;> omega))); have dwC := fun o => hbwC.cell (p := ⟨w.heap.size, o, none⟩) (by first | omega | (simp <;> omega)); clear hbwC) | fail)
    go_ret
    exact ⟨ret_bool HF.out.symm, HBwC.out⟩
  | true =>
  cases htex : validTex s.log s.tex with
  | false =>
    have HF : Hid (sceneOk s = false) := Lib.hid (by rw [HD.out, htex]; simp)
    go_enter Tryz.func22, Tryz.ntmps22
    go_wp2_with (first | (go_at_call 50; (with_reducible refine (HCAM.out true hcam _).mono ?_); rintro e wC ⟨rfl, hbwC⟩; have hzwC := hbwC.size; (try simp at hzwC); have HBwC : Hid (Below w.heap.size w wC) := Lib.hid (Below.step hbwC (by repeat (first | (with_reducible exact Below.refl _ _) | (with_reducible exact HBZ.out) | (with_reducible assumption) | ((with_reducible refine Below.alloc ?_ ?_ _); rotate_left; (first | omega | (simp <;> omega))) | ((with_reducible refine Below.setCell ?_ ?_ _); rotate_left; (first | omega | (simp <;> omega))) | (with_reducible refine below_drewN ?_ _) | (with_reducible refine Below.drew ?_) | ((with_reducible refine Below.step (by assumption) ?_ ?_); rotate_left; (first | omega | (simp <;> omega))))) (by first | omega | (simp <;> omega))); have dwC := fun o => hbwC.cell (p := ⟨w.heap.size, o, none⟩) (by first | omega | (simp <;> omega)); clear hbwC) | (go_at_call 51; (with_reducible refine (HTEX.out false htex _ HBwC.out).mono ?_); rintro e wX ⟨rfl, hbwX⟩; have hzwX := hbwX.size; (try simp at hzwX); have HBwX : Hid (Below w.heap.size w wX) := Lib.hid (Below.step hbwX (by repeat (first | (with_reducible exact Below.refl _ _) | (with_reducible exact HBwC.out) | (with_reducible assumption) | ((with_reducible refine Below.alloc ?_ ?_ _); rotate_left; (first | omega | (simp <;> omega))) | ((with_reducible refine Below.setCell ?_ ?_ _); rotate_left; (first | omega | (simp <;> omega))) | (with_reducible refine below_drewN ?_ _) | (with_reducible refine Below.drew ?_) | ((with_reducible refine Below.step (by assumption) ?_ ?_); rotate_left; (first | omega | (simp <;> omega))))) (by first | omega | (simp <;> omega))); have dwX := fun o => hbwX.cell (p := ⟨w.heap.size, o, none⟩) (by first | omega | (simp <;> omega)); clear hbwX) | fail)
    go_ret
    exact ⟨ret_bool HF.out.symm, HBwX.out⟩
  | true =>
  cases hin : inB s.ps.length 1 3 with
  | false =>
    have HF : Hid (sceneOk s = false) := Lib.hid (by rw [HD.out, hin]; simp)
    go_enter Tryz.func22, Tryz.ntmps22
    go_wp2_with (first | (go_at_call 50; (with_reducible refine (HCAM.out true hcam _).mono ?_); rintro e wC ⟨rfl, hbwC⟩; have hzwC := hbwC.size; (try simp at hzwC); have HBwC : Hid (Below w.heap.size w wC) := Lib.hid (Below.step hbwC (by repeat (first | (with_reducible exact Below.refl _ _) | (with_reducible exact HBZ.out) | (with_reducible assumption) | ((with_reducible refine Below.alloc ?_ ?_ _); rotate_left; (first | omega | (simp <;> omega))) | ((with_reducible refine Below.setCell ?_ ?_ _); rotate_left; (first | omega | (simp <;> omega))) | (with_reducible refine below_drewN ?_ _) | (with_reducible refine Below.drew ?_) | ((with_reducible refine Below.step (by assumption) ?_ ?_); rotate_left; (first | omega | (simp <;> omega))))) (by first | omega | (simp <;> omega))); have dwC := fun o => hbwC.cell (p := ⟨w.heap.size, o, none⟩) (by first | omega | (simp <;> omega)); clear hbwC) | (go_at_call 51; (with_reducible refine (HTEX.out true htex _ HBwC.out).mono ?_); rintro e wX ⟨rfl, hbwX⟩; have hzwX := hbwX.size; (try simp at hzwX); have HBwX : Hid (Below w.heap.size w wX) := Lib.hid (Below.step hbwX (by repeat (first | (with_reducible exact Below.refl _ _) | (with_reducible exact HBwC.out) | (with_reducible assumption) | ((with_reducible refine Below.alloc ?_ ?_ _); rotate_left; (first | omega | (simp <;> omega))) | ((with_reducible refine Below.setCell ?_ ?_ _); rotate_left; (first | omega | (simp <;> omega))) | (with_reducible refine below_drewN ?_ _) | (with_reducible refine Below.drew ?_) | ((with_reducible refine Below.step (by assumption) ?_ ?_); rotate_left; (first | omega | (simp <;> omega))))) (by first | omega | (simp <;> omega))); have dwX := fun o => hbwX.cell (p := ⟨w.heap.size, o, none⟩) (by first | omega | (simp <;> omega)); clear hbwX) | (go_at_call 31; (with_reducible refine (HIN.out false hin _).mono ?_); rintro e w' ⟨rfl, rfl⟩) | fail)
    go_ret
    exact ⟨ret_bool HF.out.symm, HBwX.out⟩
  | true =>
  by_cases hle : s.ss.length ≤ 5
  rotate_left
  · have HF : Hid (sceneOk s = false) := Lib.hid (by rw [HD.out]; simp [hle])
    have hgt : (5 : Int) < s.ss.length := by omega
    go_enter Tryz.func22, Tryz.ntmps22
    go_wp2_with (first | (go_at_call 50; (with_reducible refine (HCAM.out true hcam _).mono ?_); rintro e wC ⟨rfl, hbwC⟩; have hzwC := hbwC.size; (try simp at hzwC); have HBwC : Hid (Below w.heap.size w wC) := Lib.hid (Below.step hbwC (by repeat (first | (with_reducible exact Below.refl _ _) | (with_reducible exact HBZ.out) | (with_reducible assumption) | ((with_reducible refine Below.alloc ?_ ?_ _); rotate_left; (first | omega | (simp <;> omega))) | ((with_reducible refine Below.setCell ?_ ?_ _); rotate_left; (first | omega | (simp <;> omega))) | (with_reducible refine below_drewN ?_ _) | (with_reducible refine Below.drew ?_) | ((with_reducible refine Below.step (by assumption) ?_ ?_); rotate_left; (first | omega | (simp <;> omega))))) (by first | omega | (simp <;> omega))); have dwC := fun o => hbwC.cell (p := ⟨w.heap.size, o, none⟩) (by first | omega | (simp <;> omega)); clear hbwC) | (go_at_call 51; (with_reducible refine (HTEX.out true htex _ HBwC.out).mono ?_); rintro e wX ⟨rfl, hbwX⟩; have hzwX := hbwX.size; (try simp at hzwX); have HBwX : Hid (Below w.heap.size w wX) := Lib.hid (Below.step hbwX (by repeat (first | (with_reducible exact Below.refl _ _) | (with_reducible exact HBwC.out) | (with_reducible assumption) | ((with_reducible refine Below.alloc ?_ ?_ _); rotate_left; (first | omega | (simp <;> omega))) | ((with_reducible refine Below.setCell ?_ ?_ _); rotate_left; (first | omega | (simp <;> omega))) | (with_reducible refine below_drewN ?_ _) | (with_reducible refine Below.drew ?_) | ((with_reducible refine Below.step (by assumption) ?_ ?_); rotate_left; (first | omega | (simp <;> omega))))) (by first | omega | (simp <;> omega))); have dwX := fun o => hbwX.cell (p := ⟨w.heap.size, o, none⟩) (by first | omega | (simp <;> omega)); clear hbwX) | (go_at_call 31; (with_reducible refine (HIN.out true hin _).mono ?_); rintro e w' ⟨rfl, rfl⟩) | fail)
    go_ret
    exact ⟨ret_bool HF.out.symm, HBwX.out⟩
  have hgt : ¬ (5 : Int) < s.ss.length := by omega
  cases hsd : sideB s.side with
  | false =>
    have HF : Hid (sceneOk s = false) := Lib.hid (by rw [HD.out, hsd]; simp)
    go_enter Tryz.func22, Tryz.ntmps22
    go_wp2_with (first | (go_at_call 50; (with_reducible refine (HCAM.out true hcam _).mono ?_); rintro e wC ⟨rfl, hbwC⟩; have hzwC := hbwC.size; (try simp at hzwC); have HBwC : Hid (Below w.heap.size w wC) := Lib.hid (Below.step hbwC (by repeat (first | (with_reducible exact Below.refl _ _) | (with_reducible exact HBZ.out) | (with_reducible assumption) | ((with_reducible refine Below.alloc ?_ ?_ _); rotate_left; (first | omega | (simp <;> omega))) | ((with_reducible refine Below.setCell ?_ ?_ _); rotate_left; (first | omega | (simp <;> omega))) | (with_reducible refine below_drewN ?_ _) | (with_reducible refine Below.drew ?_) | ((with_reducible refine Below.step (by assumption) ?_ ?_); rotate_left; (first | omega | (simp <;> omega))))) (by first | omega | (simp <;> omega))); have dwC := fun o => hbwC.cell (p := ⟨w.heap.size, o, none⟩) (by first | omega | (simp <;> omega)); clear hbwC) | (go_at_call 51; (with_reducible refine (HTEX.out true htex _ HBwC.out).mono ?_); rintro e wX ⟨rfl, hbwX⟩; have hzwX := hbwX.size; (try simp at hzwX); have HBwX : Hid (Below w.heap.size w wX) := Lib.hid (Below.step hbwX (by repeat (first | (with_reducible exact Below.refl _ _) | (with_reducible exact HBwC.out) | (with_reducible assumption) | ((with_reducible refine Below.alloc ?_ ?_ _); rotate_left; (first | omega | (simp <;> omega))) | ((with_reducible refine Below.setCell ?_ ?_ _); rotate_left; (first | omega | (simp <;> omega))) | (with_reducible refine below_drewN ?_ _) | (with_reducible refine Below.drew ?_) | ((with_reducible refine Below.step (by assumption) ?_ ?_); rotate_left; (first | omega | (simp <;> omega))))) (by first | omega | (simp <;> omega))); have dwX := fun o => hbwX.cell (p := ⟨w.heap.size, o, none⟩) (by first | omega | (simp <;> omega)); clear hbwX) | (go_at_call 31; (with_reducible refine (HIN.out true hin _).mono ?_); rintro e w' ⟨rfl, rfl⟩) | (go_at_call 52; (with_reducible refine (HSD.out false hsd _).mono ?_); rintro e w' ⟨rfl, rfl⟩) | fail)
    go_ret
    exact ⟨ret_bool HF.out.symm, HBwX.out⟩
  | true =>
  have HT : Hid (shadTo s.ps s.ps.length = true → surfsTo s.ps.length s.ss s.ss.length = true → sceneOk s = true) := Lib.hid (fun h1 h2 => by rw [HD.out, hcam, htex, hin, hsd, h1, h2]; simp [hle])
  go_enter Tryz.func22, Tryz.ntmps22
  go_upto_region 3 with (first | (go_at_call 50; (with_reducible refine (HCAM.out true hcam _).mono ?_); rintro e wC ⟨rfl, hbwC⟩; have hzwC := hbwC.size; (try simp at hzwC); have HBwC : Hid (Below w.heap.size w wC) := Lib.hid (Below.step hbwC (by repeat (first | (with_reducible exact Below.refl _ _) | (with_reducible exact HBZ.out) | (with_reducible assumption) | ((with_reducible refine Below.alloc ?_ ?_ _); rotate_left; (first | omega | (simp <;> omega))) | ((with_reducible refine Below.setCell ?_ ?_ _); rotate_left; (first | omega | (simp <;> omega))) | (with_reducible refine below_drewN ?_ _) | (with_reducible refine Below.drew ?_) | ((with_reducible refine Below.step (by assumption) ?_ ?_); rotate_left; (first | omega | (simp <;> omega))))) (by first | omega | (simp <;> omega))); have dwC := fun o => hbwC.cell (p := ⟨w.heap.size, o, none⟩) (by first | omega | (simp <;> omega)); have HPwC : Hid (Own wC w.heap.size 38 [.int .i64 s.a, .int .i64 s.b, .int .i64 s.c, .int .i64 s.d, .bool s.e, .int .i64 s.f, .int .i64 s.g, .int .i64 s.log, .slice T s.tex.length tc, .slice P s.ps.length pc, .slice Q s.ss.length qc, .int .i64 s.side]) := Lib.hid (Own.step hbwC HPZ.out); clear hbwC) | (go_at_call 51; (with_reducible refine (HTEX.out true htex _ HBwC.out).mono ?_); rintro e wX ⟨rfl, hbwX⟩; have hzwX := hbwX.size; (try simp at hzwX); have HBwX : Hid (Below w.heap.size w wX) := Lib.hid (Below.step hbwX (by repeat (first | (with_reducible exact Below.refl _ _) | (with_reducible exact HBwC.out) | (with_reducible assumption) | ((with_reducible refine Below.alloc ?_ ?_ _); rotate_left; (first | omega | (simp <;> omega))) | ((with_reducible refine Below.setCell ?_ ?_ _); rotate_left; (first | omega | (simp <;> omega))) | (with_reducible refine below_drewN ?_ _) | (with_reducible refine Below.drew ?_) | ((with_reducible refine Below.step (by assumption) ?_ ?_); rotate_left; (first | omega | (simp <;> omega))))) (by first | omega | (simp <;> omega))); have dwX := fun o => hbwX.cell (p := ⟨w.heap.size, o, none⟩) (by first | omega | (simp <;> omega)); have HPwX : Hid (Own wX w.heap.size 38 [.int .i64 s.a, .int .i64 s.b, .int .i64 s.c, .int .i64 s.d, .bool s.e, .int .i64 s.f, .int .i64 s.g, .int .i64 s.log, .slice T s.tex.length tc, .slice P s.ps.length pc, .slice Q s.ss.length qc, .int .i64 s.side]) := Lib.hid (Own.step hbwX HPwC.out); clear hbwX) | (go_at_call 31; (with_reducible refine (HIN.out true hin _).mono ?_); rintro e w' ⟨rfl, rfl⟩) | (go_at_call 52; (with_reducible refine (HSD.out true hsd _).mono ?_); rintro e w' ⟨rfl, rfl⟩) | fail)
  have t0 : wX.cell? ⟨w.heap.size, 0, none⟩ = some (.int .i64 s.a) := HPwX.out.cell 0
  have t1 : wX.cell? ⟨w.heap.size, 1, none⟩ = some (.int .i64 s.b) := HPwX.out.cell 1
  have t2 : wX.cell? ⟨w.heap.size, 2, none⟩ = some (.int .i64 s.c) := HPwX.out.cell 2
  have t3 : wX.cell? ⟨w.heap.size, 3, none⟩ = some (.int .i64 s.d) := HPwX.out.cell 3
  have t4 : wX.cell? ⟨w.heap.size, 4, none⟩ = some (.bool s.e) := HPwX.out.cell 4
  have t5 : wX.cell? ⟨w.heap.size, 5, none⟩ = some (.int .i64 s.f) := HPwX.out.cell 5
  have t6 : wX.cell? ⟨w.heap.size, 6, none⟩ = some (.int .i64 s.g) := HPwX.out.cell 6
  have t7 : wX.cell? ⟨w.heap.size, 7, none⟩ = some (.int .i64 s.log) := HPwX.out.cell 7
  have t8 : wX.cell? ⟨w.heap.size, 8, none⟩ = some (.slice T s.tex.length tc) := HPwX.out.cell 8
  have t9 : wX.cell? ⟨w.heap.size, 9, none⟩ = some (.slice P s.ps.length pc) := HPwX.out.cell 9
  have t10 : wX.cell? ⟨w.heap.size, 10, none⟩ = some (.slice Q s.ss.length qc) := HPwX.out.cell 10
  have t11 : wX.cell? ⟨w.heap.size, 11, none⟩ = some (.int .i64 s.side) := HPwX.out.cell 11
  have hlX := HPwX.out.lt
  go_wp2_with fail
  go_loopw [4, 39] (fun _ i wr => ∃ k : Nat, k ≤ s.ps.length ∧ i = .int .i64 k ∧ shadTo s.ps k = true ∧ Own wr w.heap.size 38 [.int .i64 s.a, .int .i64 s.b, .int .i64 s.c, .int .i64 s.d, .bool s.e, .int .i64 s.f, .int .i64 s.g, .int .i64 s.log, .slice T s.tex.length tc, .slice P s.ps.length pc, .slice Q s.ss.length qc, .int .i64 s.side] ∧ Below w.heap.size w wr) (fun _ i _ => s.ps.length - (RowKit.intOf i).toNat)
  case atStart => exact ⟨0, Nat.zero_le _, rfl, rfl, HPwX.out, HBwX.out⟩
  case round =>
    obtain ⟨k, hk, rfl, hsh, hp, hb⟩ := hrel
    obtain ⟨wo, rfl⟩ : ∃ wo, wo = wr := ⟨_, rfl⟩
    have hz := hb.size
    have hl := hp.lt
    have HSH := Lib.hid hsh
    have HP := Lib.hid hp
    have HB := Lib.hid hb
    have u0 : wo.cell? ⟨w.heap.size, 0, none⟩ = some (.int .i64 s.a) := hp.cell 0
    have u1 : wo.cell? ⟨w.heap.size, 1, none⟩ = some (.int .i64 s.b) := hp.cell 1
    have u2 : wo.cell? ⟨w.heap.size, 2, none⟩ = some (.int .i64 s.c) := hp.cell 2
    have u3 : wo.cell? ⟨w.heap.size, 3, none⟩ = some (.int .i64 s.d) := hp.cell 3
    have u4 : wo.cell? ⟨w.heap.size, 4, none⟩ = some (.bool s.e) := hp.cell 4
    have u5 : wo.cell? ⟨w.heap.size, 5, none⟩ = some (.int .i64 s.f) := hp.cell 5
    have u6 : wo.cell? ⟨w.heap.size, 6, none⟩ = some (.int .i64 s.g) := hp.cell 6
    have u7 : wo.cell? ⟨w.heap.size, 7, none⟩ = some (.int .i64 s.log) := hp.cell 7
    have u8 : wo.cell? ⟨w.heap.size, 8, none⟩ = some (.slice T s.tex.length tc) := hp.cell 8
    have u9 : wo.cell? ⟨w.heap.size, 9, none⟩ = some (.slice P s.ps.length pc) := hp.cell 9
    have u10 : wo.cell? ⟨w.heap.size, 10, none⟩ = some (.slice Q s.ss.length qc) := hp.cell 10
    have u11 : wo.cell? ⟨w.heap.size, 11, none⟩ = some (.int .i64 s.side) := hp.cell 11
    clear hp hb hsh
    by_cases hlt : k < s.ps.length
    · obtain ⟨b, o, A1, c1, A2, c2, rfl, hbh, hpi, hn1, hn2, x0, x1⟩ := H0.out.ps.2.2 k hlt
      have y0 := (HB.out.cell (p := ⟨b, o + k * 2, none⟩) hbh).trans x0
      have y1 := (HB.out.cell (p := ⟨b, o + k * 2 + 1, none⟩) hbh).trans x1
      have HSU := Lib.hid (shadTo_succ hlt)
      have HNO := Lib.hid (shadTo_no hlt)
      obtain ⟨x, hx⟩ : ∃ x, s.ps[k] = x := ⟨_, rfl⟩
      rw [hx] at y0 y1 HSU HNO hpi hn1 hn2
      have HC : Hid (∀ wx, Below w.heap.size w wx → Calls Tryz.prog 53 #[vProg A1 x.1.length c1 A2 x.2.length c2] wx fun e w' => e = .returned (.bool (checkOk x)) ∧ Below wx.heap.size wx w') := Lib.hid (fun wx hbx => I_isOk wx (hpi.step hbx) hn1 hn2)
      have hwn : ¬ wo.heap.size = w.heap.size := by omega
      have hwn2 : ¬ w.heap.size = wo.heap.size := by omega
      have j1 : (k : Int) < s.ps.length := by omega
      have j2 : (0 : Int) ≤ k := by omega
      clear hpi hx x0 x1
      cases hok : checkOk x with
      | false =>
        have HF : Hid (sceneOk s = false) := Lib.hid (by rw [HD.out, HNO.out hok]; simp)
        rw [hok] at HC
        go_wp2_with (first | (go_at_call 53; (with_reducible refine (HC.out _ (by repeat (first | (with_reducible exact Below.refl _ _) | (with_reducible exact HB.out) | (with_reducible assumption) | ((with_reducible refine Below.alloc ?_ ?_ _); rotate_left; (first | omega | (simp <;> omega))) | ((with_reducible refine Below.setCell ?_ ?_ _); rotate_left; (first | omega | (simp <;> omega))) | (with_reducible refine below_drewN ?_ _) | (with_reducible refine Below.drew ?_) | ((with_reducible refine Below.step (by assumption) ?_ ?_); rotate_left; (first | omega | (simp <;> omega)))))).mono ?_); rintro e wK ⟨rfl, hbK⟩; have HBK : Hid (Below w.heap.size w wK) := Lib.hid (Below.step hbK (by repeat (first | (with_reducible exact Below.refl _ _) | (with_reducible exact HB.out) | (with_reducible assumption) | ((with_reducible refine Below.alloc ?_ ?_ _); rotate_left; (first | omega | (simp <;> omega))) | ((with_reducible refine Below.setCell ?_ ?_ _); rotate_left; (first | omega | (simp <;> omega))) | (with_reducible refine below_drewN ?_ _) | (with_reducible refine Below.drew ?_) | ((with_reducible refine Below.step (by assumption) ?_ ?_); rotate_left; (first | omega | (simp <;> omega))))) (by first | omega | (simp <;> omega))); have HPK : Hid (Own wK w.heap.size 38 [.int .i64 s.a, .int .i64 s.b, .int .i64 s.c, .int .i64 s.d, .bool s.e, .int .i64 s.f, .int .i64 s.g, .int .i64 s.log, .slice T s.tex.length tc, .slice (some ⟨b, o, none⟩) s.ps.length pc, .slice Q s.ss.length qc, .int .i64 s.side]) := Lib.hid (Own.step hbK (by repeat (first | (with_reducible exact HP.out) | ((with_reducible refine Own.far ?_ ?_ _); rotate_left; (first | omega | (simp <;> omega))) | (with_reducible refine Own.alloc ?_ _) | (with_reducible refine Own.drewN ?_ _) | (with_reducible refine Own.drew ?_) | (with_reducible refine Own.step (by assumption) ?_)))); clear hbK) | fail)
        go_ret
        exact ⟨ret_bool HF.out.symm, HBK.out⟩
      | true =>
        have HK : Hid (shadTo s.ps (k + 1) = true) := Lib.hid (by rw [HSU.out, HSH.out, hok]; rfl)
        rw [hok] at HC
        go_wp2_with (first | (go_at_call 53; (with_reducible refine (HC.out _ (by repeat (first | (with_reducible exact Below.refl _ _) | (with_reducible exact HB.out) | (with_reducible assumption) | ((with_reducible refine Below.alloc ?_ ?_ _); rotate_left; (first | omega | (simp <;> omega))) | ((with_reducible refine Below.setCell ?_ ?_ _); rotate_left; (first | omega | (simp <;> omega))) | (with_reducible refine below_drewN ?_ _) | (with_reducible refine Below.drew ?_) | ((with_reducible refine Below.step (by assumption) ?_ ?_); rotate_left; (first | omega | (simp <;> omega)))))).mono ?_); rintro e wK ⟨rfl, hbK⟩; have HBK : Hid (Below w.heap.size w wK) := Lib.hid (Below.step hbK (by repeat (first | (with_reducible exact Below.refl _ _) | (with_reducible exact HB.out) | (with_reducible assumption) | ((with_reducible refine Below.alloc ?_ ?_ _); rotate_left; (first | omega | (simp <;> omega))) | ((with_reducible refine Below.setCell ?_ ?_ _); rotate_left; (first | omega | (simp <;> omega))) | (with_reducible refine below_drewN ?_ _) | (with_reducible refine Below.drew ?_) | ((with_reducible refine Below.step (by assumption) ?_ ?_); rotate_left; (first | omega | (simp <;> omega))))) (by first | omega | (simp <;> omega))); have HPK : Hid (Own wK w.heap.size 38 [.int .i64 s.a, .int .i64 s.b, .int .i64 s.c, .int .i64 s.d, .bool s.e, .int .i64 s.f, .int .i64 s.g, .int .i64 s.log, .slice T s.tex.length tc, .slice (some ⟨b, o, none⟩) s.ps.length pc, .slice Q s.ss.length qc, .int .i64 s.side]) := Lib.hid (Own.step hbK (by repeat (first | (with_reducible exact HP.out) | ((with_reducible refine Own.far ?_ ?_ _); rotate_left; (first | omega | (simp <;> omega))) | (with_reducible refine Own.alloc ?_ _) | (with_reducible refine Own.drewN ?_ _) | (with_reducible refine Own.drew ?_) | (with_reducible refine Own.step (by assumption) ?_)))); clear hbK) | fail)
        go_roundw
        case rel => exact ⟨k + 1, by omega, by go_num, HK.out, HPK.out, HBK.out⟩
        case measure => simp [RowKit.intOf] <;> omega
    · obtain rfl : k = s.ps.length := by omega
      go_wp2_with fail
      go_loopw [6, 50] (fun _ i wr => ∃ k : Nat, k ≤ s.ss.length ∧ i = .int .i64 k ∧ surfsTo s.ps.length s.ss k = true ∧ Own wr w.heap.size 38 [.int .i64 s.a, .int .i64 s.b, .int .i64 s.c, .int .i64 s.d, .bool s.e, .int .i64 s.f, .int .i64 s.g, .int .i64 s.log, .slice T s.tex.length tc, .slice P s.ps.length pc, .slice Q s.ss.length qc, .int .i64 s.side] ∧ Below w.heap.size w wr) (fun _ i _ => s.ss.length - (RowKit.intOf i).toNat)
      case atStart => exact ⟨0, Nat.zero_le _, rfl, rfl, HP.out, HB.out⟩
      case round =>
        obtain ⟨k2, hk2, rfl, hss, hp2, hb2⟩ := hrel
        obtain ⟨wi, rfl⟩ : ∃ wi, wi = wr := ⟨_, rfl⟩
        have hz2 := hb2.size
        have hl2 := hp2.lt
        have HSS := Lib.hid hss
        have HP2 := Lib.hid hp2
        have HB2 := Lib.hid hb2
        have v0 : wi.cell? ⟨w.heap.size, 0, none⟩ = some (.int .i64 s.a) := hp2.cell 0
        have v1 : wi.cell? ⟨w.heap.size, 1, none⟩ = some (.int .i64 s.b) := hp2.cell 1
        have v2 : wi.cell? ⟨w.heap.size, 2, none⟩ = some (.int .i64 s.c) := hp2.cell 2
        have v3 : wi.cell? ⟨w.heap.size, 3, none⟩ = some (.int .i64 s.d) := hp2.cell 3
        have v4 : wi.cell? ⟨w.heap.size, 4, none⟩ = some (.bool s.e) := hp2.cell 4
        have v5 : wi.cell? ⟨w.heap.size, 5, none⟩ = some (.int .i64 s.f) := hp2.cell 5
        have v6 : wi.cell? ⟨w.heap.size, 6, none⟩ = some (.int .i64 s.g) := hp2.cell 6
        have v7 : wi.cell? ⟨w.heap.size, 7, none⟩ = some (.int .i64 s.log) := hp2.cell 7
        have v8 : wi.cell? ⟨w.heap.size, 8, none⟩ = some (.slice T s.tex.length tc) := hp2.cell 8
        have v9 : wi.cell? ⟨w.heap.size, 9, none⟩ = some (.slice P s.ps.length pc) := hp2.cell 9
        have v10 : wi.cell? ⟨w.heap.size, 10, none⟩ = some (.slice Q s.ss.length qc) := hp2.cell 10
        have v11 : wi.cell? ⟨w.heap.size, 11, none⟩ = some (.int .i64 s.side) := hp2.cell 11
        clear hp2 hb2 hss
        by_cases hlt2 : k2 < s.ss.length
        · obtain ⟨b, o, rfl, hbh, hsf⟩ := H0.out.ss.2.2 k2 hlt2
          have hsw := hsf.below HB2.out hbh
          have HSU := Lib.hid (surfsTo_succ (n := s.ps.length) hlt2)
          have HNO := Lib.hid (surfsTo_no (n := s.ps.length) hlt2)
          obtain ⟨⟨p, q, sh, rt⟩, hx⟩ : ∃ x, s.ss[k2] = x := ⟨_, rfl⟩
          rw [hx] at hsw HSU HNO
          (try dsimp only at hsw)
          obtain ⟨w1, w2, V, hV, hld, hal, hst, hlv, hz3, hbw, _⟩ := surf_box hsw
          have HLD := Lib.hid hld
          have HAL := Lib.hid hal
          have HST := Lib.hid hst
          have HLV := Lib.hid hlv
          have HV := Lib.hid hV
          have HBW : Hid (Below w.heap.size w w2) := Lib.hid (Below.step hbw HB2.out HB2.out.size)
          have HPW : Hid (Own w2 w.heap.size 38 [.int .i64 s.a, .int .i64 s.b, .int .i64 s.c, .int .i64 s.d, .bool s.e, .int .i64 s.f, .int .i64 s.g, .int .i64 s.log, .slice T s.tex.length tc, .slice P s.ps.length pc, .slice (some ⟨b, o, none⟩) s.ss.length qc, .int .i64 s.side]) := Lib.hid (Own.step hbw HP2.out)
          have x9 : w2.cell? ⟨w.heap.size, 9, none⟩ = some (.slice P s.ps.length pc) := HPW.out.cell 9
          clear hsw hV hld hal hst hlv hbw
          have hwn : ¬ wi.heap.size = w.heap.size := by omega
          have hwn2 : ¬ w.heap.size = wi.heap.size := by omega
          have j1 : (k2 : Int) < s.ss.length := by omega
          have j2 : (0 : Int) ≤ k2 := by omega
          clear hsf hx
          cases hok : surfOk s.ps.length (p, q, sh, rt) with
          | false =>
            have HF : Hid (sceneOk s = false) := Lib.hid (by rw [HD.out, HNO.out hok]; simp)
            have HC : Hid (∀ wx, Calls Tryz.prog 54 #[V, .int .i64 s.ps.length] wx fun e w' => e = .returned (.bool false) ∧ Below wx.heap.size wx w') := Lib.hid (fun wx => by rw [HV.out]; have := I_IsValidSurface p q sh rt s.ps.length wx; rw [hok] at this; exact this)
            go_wp2_with (first | (refine wpList_loadE rfl 79 (.tmp 52) rfl rfl HLD.out ?_) | (refine wpList_allocE rfl 79 rfl HAL.out ?_) | (refine wpList_storeE rfl 79 (.tmp 6) (.tmp 53) rfl rfl rfl HST.out ?_) | (refine wpList_loadE rfl 79 (.tmp 6) rfl rfl HLV.out ?_) | (go_at_call 54; (with_reducible refine (HC.out _).mono ?_); rintro e wS ⟨rfl, hbwS⟩; have hzwS := hbwS.size; (try simp at hzwS); have HBwS : Hid (Below w.heap.size w wS) := Lib.hid (Below.step hbwS (by repeat (first | (with_reducible exact Below.refl _ _) | (with_reducible exact HBW.out) | (with_reducible assumption) | ((with_reducible refine Below.alloc ?_ ?_ _); rotate_left; (first | omega | (simp <;> omega))) | ((with_reducible refine Below.setCell ?_ ?_ _); rotate_left; (first | omega | (simp <;> omega))) | (with_reducible refine below_drewN ?_ _) | (with_reducible refine Below.drew ?_) | ((with_reducible refine Below.step (by assumption) ?_ ?_); rotate_left; (first | omega | (simp <;> omega))))) (by first | omega | (simp <;> omega))); clear hbwS) | fail)
            go_ret
            exact ⟨ret_bool HF.out.symm, HBwS.out⟩
          | true =>
            have HK : Hid (surfsTo s.ps.length s.ss (k2 + 1) = true) := Lib.hid (by rw [HSU.out, HSS.out, hok]; rfl)
            have HC : Hid (∀ wx, Calls Tryz.prog 54 #[V, .int .i64 s.ps.length] wx fun e w' => e = .returned (.bool true) ∧ Below wx.heap.size wx w') := Lib.hid (fun wx => by rw [HV.out]; have := I_IsValidSurface p q sh rt s.ps.length wx; rw [hok] at this; exact this)
            go_wp2_with (first | (refine wpList_loadE rfl 79 (.tmp 52) rfl rfl HLD.out ?_) | (refine wpList_allocE rfl 79 rfl HAL.out ?_) | (refine wpList_storeE rfl 79 (.tmp 6) (.tmp 53) rfl rfl rfl HST.out ?_) | (refine wpList_loadE rfl 79 (.tmp 6) rfl rfl HLV.out ?_) | (go_at_call 54; (with_reducible refine (HC.out _).mono ?_); rintro e wS ⟨rfl, hbS⟩; have HPS : Hid (Own wS w.heap.size 38 [.int .i64 s.a, .int .i64 s.b, .int .i64 s.c, .int .i64 s.d, .bool s.e, .int .i64 s.f, .int .i64 s.g, .int .i64 s.log, .slice T s.tex.length tc, .slice P s.ps.length pc, .slice (some ⟨b, o, none⟩) s.ss.length qc, .int .i64 s.side]) := Lib.hid (Own.step hbS HPW.out); have HBS : Hid (Below w.heap.size w wS) := Lib.hid (Below.step hbS HBW.out HBW.out.size); clear hbS) | fail)
            go_roundw
            case rel => exact ⟨k2 + 1, by omega, by go_num, HK.out, HPS.out, HBS.out⟩
            case measure => simp [RowKit.intOf] <;> omega
        · obtain rfl : k2 = s.ss.length := by omega
          have HF := Lib.hid (HT.out HSH.out HSS.out)
          go_wp2_with fail
          go_ret
          exact ⟨ret_bool HF.out.symm, HB2.out⟩
end Go.Proofs.YtjipfgadamokaaaGreatDoor
