/- MADE BY PROGRAM (genlaw.py). The law FnExactCompareImages. -/
import Derived.Test.YtndipkclmecpoaaCompare
import Derived.Test.YtndipkclmecpoaaMade
import Derived.Deep.RegionHeld3
import Derived.Deep.DeepCutAuto
namespace Go.Proofs.Ytndipkclmecpoaa
open Go.ChangeShapes Go.WideShapes Go.ChangeAt Go.RowKit
set_option linter.unusedVariables false
set_option maxRecDepth 100000
set_option maxHeartbeats 8000000 in
theorem L_ExCompareImages1 (y0a y0b : Int) (y0lc : List Int) (A0a : Option Addr) (p0a : Nat) (y1a y1b : Int) (y1lc : List Int) (A1a : Option Addr) (p1a : Nat) (r0 : Int) (r1 : Int) (r2 : Bool) (w : World) (h0a : RS w 1 A0a y0lc.length p0a (ints y0lc)) (h1a : RS w 1 A1a y1lc.length p1a (ints y1lc))  (HS : Hid (∀ (A0a : Option Addr) (p0a : Nat), ∀ (A1a : Option Addr) (p1a : Nat), ∀ (wx : World), RS wx 1 A0a y0lc.length p0a (ints y0lc) → RS wx 1 A1a y1lc.length p1a (ints y1lc) → Calls Try.prog 26 #[(vImage y0a y0b (.slice A0a y0lc.length p0a)), (vImage y1a y1b (.slice A1a y1lc.length p1a))] wx (fun e w' => e = .returned (.tuple #[(.int .i64 r0), (.int .i64 r1), (.bool r2)]) ∧ Below wx.heap.size wx w'))) (HI : Hid (∀ (A0a : Option Addr) (p0a : Nat), ∀ (A1a : Option Addr) (p1a : Nat), ∀ (wx : World), RS wx 1 A0a y0lc.length p0a (ints y0lc) → RS wx 1 A1a y1lc.length p1a (ints y1lc) → Calls Try.prog 28 #[(vImage y0a y0b (.slice A0a y0lc.length p0a)), (vImage y1a y1b (.slice A1a y1lc.length p1a))] wx (fun e w' => e = .returned (.tuple #[(.int .i64 r0), (.int .i64 r1), (.bool r2)]) ∧ Below wx.heap.size wx w'))) :
    Calls Try.prog 5 #[(vImage y0a y0b (.slice A0a y0lc.length p0a)), (vImage y1a y1b (.slice A1a y1lc.length p1a))] w fun e w' => e = .returned (.bool true) ∧ Below w.heap.size w w' := by
  have mh0a := h0a.len
  have mh1a := h1a.len
  unfold maxLen at *
  go_enter Try.func5, Try.ntmps5
  go_upto_region 1 with fail
  go_cut [5] (fun sl wx => sl = .int .i64 1048576 ∧ Box wx (w.heap.size) [.int .i64 y0a, .int .i64 y0b, (.slice A0a y0lc.length p0a)] ∧ Box wx (w.heap.size + 1) [.int .i64 y1a, .int .i64 y1b, (.slice A1a y1lc.length p1a)] ∧ RS wx 1 A0a y0lc.length p0a (ints y0lc) ∧ RS wx 1 A1a y1lc.length p1a (ints y1lc) ∧ Below w.heap.size w wx)
  case first =>
    go_wp2_with fail
    go_meet
    exact ⟨rfl, Box.of_own (t := 40) (by repeat (first | (exact Own.at_lit (by simp)) | (with_reducible refine Own.alloc ?_ _))), Box.of_own (t := 40) (by repeat (first | (exact Own.at_lit (by simp)) | (with_reducible refine Own.alloc ?_ _))), (RS.step (by repeat (first | (with_reducible exact Below.refl _ _) | (with_reducible assumption) | ((with_reducible refine Below.alloc ?_ ?_ _); rotate_left; (first | omega | (simp <;> omega))) | ((with_reducible refine Below.setCell ?_ ?_ _); rotate_left; (first | omega | (simp <;> omega))) | (with_reducible refine below_drewN ?_ _) | (with_reducible refine Below.drew ?_) | ((with_reducible refine Below.step (by assumption) ?_ ?_); rotate_left; (first | omega | (simp <;> omega))))) h0a), (RS.step (by repeat (first | (with_reducible exact Below.refl _ _) | (with_reducible assumption) | ((with_reducible refine Below.alloc ?_ ?_ _); rotate_left; (first | omega | (simp <;> omega))) | ((with_reducible refine Below.setCell ?_ ?_ _); rotate_left; (first | omega | (simp <;> omega))) | (with_reducible refine below_drewN ?_ _) | (with_reducible refine Below.drew ?_) | ((with_reducible refine Below.step (by assumption) ?_ ?_); rotate_left; (first | omega | (simp <;> omega))))) h1a), (by repeat (first | (with_reducible exact Below.refl _ _) | (with_reducible assumption) | ((with_reducible refine Below.alloc ?_ ?_ _); rotate_left; (first | omega | (simp <;> omega))) | ((with_reducible refine Below.setCell ?_ ?_ _); rotate_left; (first | omega | (simp <;> omega))) | (with_reducible refine below_drewN ?_ _) | (with_reducible refine Below.drew ?_) | ((with_reducible refine Below.step (by assumption) ?_ ?_); rotate_left; (first | omega | (simp <;> omega)))))⟩
  case rest =>
    obtain ⟨u1, rfl⟩ : ∃ u1, u1 = wc := ⟨_, rfl⟩
    obtain ⟨rfl, ba0, ba1, qh0a, qh1a, hB⟩ := hcut
    go_upto_region 2 with fail
    go_cut [5] (fun sl wx => (sl = .int .i64 (-1) ∨ ∃ z : Int, sl = .int .i64 z ∧ 0 ≤ z ∧ z ≤ 1048576 ∧ (y0lc.length : Int) ≤ 1048576) ∧ Below u1.heap.size u1 wx)
    case first =>
      obtain ⟨zb1a, cb1a0, cb1a1, cb1a2⟩ := ba0.open3
      go_wp2_with fail
      refine (L_szImage _ (by first | omega | assumption) (by first | omega | assumption) (by unfold maxLen; first | omega | assumption)).mono ?_
      rintro e v1a ⟨rfl, hbv1a⟩
      have hzv1a := hbv1a.size; (try simp at hzv1a)
      have cv1aa := fun o => hbv1a.cell (p := ⟨w.heap.size, o, none⟩) (by first | omega | (simp <;> omega))
      have zv1aa : w.heap.size < v1a.heap.size := (by first | omega | (simp <;> omega))
      have ev1aa : ¬ w.heap.size = v1a.heap.size := (by omega)
      have gv1aa : ¬ v1a.heap.size = w.heap.size := (by omega)
      go_wp2_with fail
      go_meet
      rcases szF_or (1048576) y0lc.length with hq | ⟨hq0, hq1, hq2⟩
      · exact ⟨.inl (by rw [hq]), (by repeat (first | (with_reducible exact Below.refl _ _) | (with_reducible assumption) | ((with_reducible refine Below.alloc ?_ ?_ _); rotate_left; (first | omega | (simp <;> omega))) | ((with_reducible refine Below.setCell ?_ ?_ _); rotate_left; (first | omega | (simp <;> omega))) | (with_reducible refine below_drewN ?_ _) | (with_reducible refine Below.drew ?_) | ((with_reducible refine Below.step (by assumption) ?_ ?_); rotate_left; (first | omega | (simp <;> omega)))))⟩
      · exact ⟨.inr ⟨_, rfl, hq0, hq1, hq2⟩, (by repeat (first | (with_reducible exact Below.refl _ _) | (with_reducible assumption) | ((with_reducible refine Below.alloc ?_ ?_ _); rotate_left; (first | omega | (simp <;> omega))) | ((with_reducible refine Below.setCell ?_ ?_ _); rotate_left; (first | omega | (simp <;> omega))) | (with_reducible refine below_drewN ?_ _) | (with_reducible refine Below.drew ?_) | ((with_reducible refine Below.step (by assumption) ?_ ?_); rotate_left; (first | omega | (simp <;> omega)))))⟩
    case rest =>
      obtain ⟨u2, rfl⟩ : ∃ u2, u2 = wc := ⟨_, rfl⟩
      obtain ⟨hsl, hb⟩ := hcut
      replace hB := Below.step hb hB hB.size
      replace ba0 := Box.step hb ba0
      replace ba1 := Box.step hb ba1
      replace qh0a := RS.step hb qh0a
      replace qh1a := RS.step hb qh1a
      clear hb
      rcases hsl with rfl | ⟨z1, rfl, hz10, hz11, hz12⟩
      · go_wp2
        go_ret
        exact ⟨rfl, hB⟩
      have by0lc : y0lc.length ≤ 1048576 := by omega
      have t1 : ¬ z1 < 0 := by omega
      go_upto_region 5 with fail
      go_cut [5] (fun sl wx => (sl = .int .i64 (-1) ∨ ∃ z : Int, sl = .int .i64 z ∧ 0 ≤ z ∧ z ≤ z1 ∧ (y1lc.length : Int) ≤ z1) ∧ Below u2.heap.size u2 wx)
      case first =>
        obtain ⟨zb2a, cb2a0, cb2a1, cb2a2⟩ := ba1.open3
        go_wp2_with fail
        refine (L_szImage _ (by first | omega | assumption) (by first | omega | assumption) (by unfold maxLen; first | omega | assumption)).mono ?_
        rintro e v2a ⟨rfl, hbv2a⟩
        have hzv2a := hbv2a.size; (try simp at hzv2a)
        have cv2aa := fun o => hbv2a.cell (p := ⟨w.heap.size + 1, o, none⟩) (by first | omega | (simp <;> omega))
        have zv2aa : w.heap.size + 1 < v2a.heap.size := (by first | omega | (simp <;> omega))
        have ev2aa : ¬ w.heap.size + 1 = v2a.heap.size := (by omega)
        have gv2aa : ¬ v2a.heap.size = w.heap.size + 1 := (by omega)
        go_wp2_with fail
        go_meet
        rcases szF_or (z1) y1lc.length with hq | ⟨hq0, hq1, hq2⟩
        · exact ⟨.inl (by rw [hq]), (by repeat (first | (with_reducible exact Below.refl _ _) | (with_reducible assumption) | ((with_reducible refine Below.alloc ?_ ?_ _); rotate_left; (first | omega | (simp <;> omega))) | ((with_reducible refine Below.setCell ?_ ?_ _); rotate_left; (first | omega | (simp <;> omega))) | (with_reducible refine below_drewN ?_ _) | (with_reducible refine Below.drew ?_) | ((with_reducible refine Below.step (by assumption) ?_ ?_); rotate_left; (first | omega | (simp <;> omega)))))⟩
        · exact ⟨.inr ⟨_, rfl, hq0, hq1, hq2⟩, (by repeat (first | (with_reducible exact Below.refl _ _) | (with_reducible assumption) | ((with_reducible refine Below.alloc ?_ ?_ _); rotate_left; (first | omega | (simp <;> omega))) | ((with_reducible refine Below.setCell ?_ ?_ _); rotate_left; (first | omega | (simp <;> omega))) | (with_reducible refine below_drewN ?_ _) | (with_reducible refine Below.drew ?_) | ((with_reducible refine Below.step (by assumption) ?_ ?_); rotate_left; (first | omega | (simp <;> omega)))))⟩
      case rest =>
        obtain ⟨u3, rfl⟩ : ∃ u3, u3 = wc := ⟨_, rfl⟩
        obtain ⟨hsl, hb⟩ := hcut
        replace hB := Below.step hb hB hB.size
        replace ba0 := Box.step hb ba0
        replace ba1 := Box.step hb ba1
        replace qh0a := RS.step hb qh0a
        replace qh1a := RS.step hb qh1a
        clear hb
        rcases hsl with rfl | ⟨z2, rfl, hz20, hz21, hz22⟩
        · go_wp2
          go_ret
          exact ⟨rfl, hB⟩
        have by1lc : y1lc.length ≤ 1048576 := by omega
        have t2 : ¬ z2 < 0 := by omega
        go_upto_region 8 with fail
        go_cut [6, 7, 8] (fun s6 s7 s8 wx => s6 = (.int .i64 r0) ∧ s7 = (.int .i64 r1) ∧ s8 = (.bool r2) ∧ Below u3.heap.size u3 wx)
        case first =>
          obtain ⟨zb3a, cb3a0, cb3a1, cb3a2⟩ := ba0.open3
          obtain ⟨zb3b, cb3b0, cb3b1, cb3b2⟩ := ba1.open3
          go_region_held3 (fun w' => w'.cell? ⟨w.heap.size, 0, none⟩ = some (.int .i64 y0a) ∧ w'.cell? ⟨w.heap.size, 1, none⟩ = some (.int .i64 y0b) ∧ w'.cell? ⟨w.heap.size, 2, none⟩ = some ((.slice A0a y0lc.length p0a)) ∧ w'.cell? ⟨w.heap.size + 1, 0, none⟩ = some (.int .i64 y1a) ∧ w'.cell? ⟨w.heap.size + 1, 1, none⟩ = some (.int .i64 y1b) ∧ w'.cell? ⟨w.heap.size + 1, 2, none⟩ = some ((.slice A1a y1lc.length p1a)))
            (first | ((try dsimp only); refine ⟨?_, ?_, ?_, ?_, ?_, ?_⟩ <;> (go_simp; done)) | go_keep)
            (first | (go_at_call 27; (with_reducible refine (L_toImageM (x0 := y0a) (x1 := y0b) (l0 := y0lc) _ by0lc (RS.step (by repeat (first | (with_reducible exact Below.refl _ _) | (with_reducible assumption) | ((with_reducible refine Below.alloc ?_ ?_ _); rotate_left; (first | omega | (simp <;> omega))) | ((with_reducible refine Below.setCell ?_ ?_ _); rotate_left; (first | omega | (simp <;> omega))) | (with_reducible refine below_drewN ?_ _) | (with_reducible refine Below.drew ?_) | ((with_reducible refine Below.step (by assumption) ?_ ?_); rotate_left; (first | omega | (simp <;> omega))))) qh0a)).mono ?_); rintro e v3a ⟨Tv3aa, kv3aa, rfl, ov3aa, gev3aa, hbv3a⟩; have hzv3a := hbv3a.size; (try simp at hzv3a); have cv3aa := fun o => hbv3a.cell (p := ⟨w.heap.size, o, none⟩) (by first | omega | (simp <;> omega)); have zv3aa : w.heap.size < v3a.heap.size := (by first | omega | (simp <;> omega)); have ev3aa : ¬ w.heap.size = v3a.heap.size := (by omega); have gv3aa : ¬ v3a.heap.size = w.heap.size := (by omega); have cv3ab := fun o => hbv3a.cell (p := ⟨w.heap.size + 1, o, none⟩) (by first | omega | (simp <;> omega)); have zv3ab : w.heap.size + 1 < v3a.heap.size := (by first | omega | (simp <;> omega)); have ev3ab : ¬ w.heap.size + 1 = v3a.heap.size := (by omega); have gv3ab : ¬ v3a.heap.size = w.heap.size + 1 := (by omega)) | (go_at_call 27; (with_reducible refine (L_toImageM (x0 := y1a) (x1 := y1b) (l0 := y1lc) _ by1lc (RS.step (by repeat (first | (with_reducible exact Below.refl _ _) | (with_reducible assumption) | ((with_reducible refine Below.alloc ?_ ?_ _); rotate_left; (first | omega | (simp <;> omega))) | ((with_reducible refine Below.setCell ?_ ?_ _); rotate_left; (first | omega | (simp <;> omega))) | (with_reducible refine below_drewN ?_ _) | (with_reducible refine Below.drew ?_) | ((with_reducible refine Below.step (by assumption) ?_ ?_); rotate_left; (first | omega | (simp <;> omega))))) qh1a)).mono ?_); rintro e v3b ⟨Tv3ba, kv3ba, rfl, ov3ba, gev3ba, hbv3b⟩; have hzv3b := hbv3b.size; (try simp at hzv3b); have cv3ba := fun o => hbv3b.cell (p := ⟨w.heap.size, o, none⟩) (by first | omega | (simp <;> omega)); have zv3ba : w.heap.size < v3b.heap.size := (by first | omega | (simp <;> omega)); have ev3ba : ¬ w.heap.size = v3b.heap.size := (by omega); have gv3ba : ¬ v3b.heap.size = w.heap.size := (by omega); have cv3bb := fun o => hbv3b.cell (p := ⟨w.heap.size + 1, o, none⟩) (by first | omega | (simp <;> omega)); have zv3bb : w.heap.size + 1 < v3b.heap.size := (by first | omega | (simp <;> omega)); have ev3bb : ¬ w.heap.size + 1 = v3b.heap.size := (by omega); have gv3bb : ¬ v3b.heap.size = w.heap.size + 1 := (by omega)) | (go_at_call 26; (with_reducible refine (HS.out _ _ _ _ _ (RS.step (by repeat (first | (with_reducible exact Below.refl _ _) | (with_reducible assumption) | ((with_reducible refine Below.alloc ?_ ?_ _); rotate_left; (first | omega | (simp <;> omega))) | ((with_reducible refine Below.setCell ?_ ?_ _); rotate_left; (first | omega | (simp <;> omega))) | (with_reducible refine below_drewN ?_ _) | (with_reducible refine Below.drew ?_) | ((with_reducible refine Below.step (by assumption) ?_ ?_); rotate_left; (first | omega | (simp <;> omega))))) (OwnS.rs ov3aa)) (RS.step (by repeat (first | (with_reducible exact Below.refl _ _) | (with_reducible assumption) | ((with_reducible refine Below.alloc ?_ ?_ _); rotate_left; (first | omega | (simp <;> omega))) | ((with_reducible refine Below.setCell ?_ ?_ _); rotate_left; (first | omega | (simp <;> omega))) | (with_reducible refine below_drewN ?_ _) | (with_reducible refine Below.drew ?_) | ((with_reducible refine Below.step (by assumption) ?_ ?_); rotate_left; (first | omega | (simp <;> omega))))) (OwnS.rs ov3ba))).mono ?_); rintro e v3c ⟨rfl, hbv3c⟩; have hzv3c := hbv3c.size; (try simp at hzv3c); have cv3ca := fun o => hbv3c.cell (p := ⟨w.heap.size, o, none⟩) (by first | omega | (simp <;> omega)); have zv3ca : w.heap.size < v3c.heap.size := (by first | omega | (simp <;> omega)); have ev3ca : ¬ w.heap.size = v3c.heap.size := (by omega); have gv3ca : ¬ v3c.heap.size = w.heap.size := (by omega); have cv3cb := fun o => hbv3c.cell (p := ⟨w.heap.size + 1, o, none⟩) (by first | omega | (simp <;> omega)); have zv3cb : w.heap.size + 1 < v3c.heap.size := (by first | omega | (simp <;> omega)); have ev3cb : ¬ w.heap.size + 1 = v3c.heap.size := (by omega); have gv3cb : ¬ v3c.heap.size = w.heap.size + 1 := (by omega)))
          all_goals
            go_wp2_with fail
            go_meet
            exact ⟨rfl, rfl, rfl, (by repeat (first | (with_reducible exact Below.refl _ _) | (with_reducible assumption) | ((with_reducible refine Below.alloc ?_ ?_ _); rotate_left; (first | omega | (simp <;> omega))) | ((with_reducible refine Below.setCell ?_ ?_ _); rotate_left; (first | omega | (simp <;> omega))) | (with_reducible refine below_drewN ?_ _) | (with_reducible refine Below.drew ?_) | ((with_reducible refine Below.step (by assumption) ?_ ?_); rotate_left; (first | omega | (simp <;> omega)))))⟩
        case rest =>
          obtain ⟨u4, rfl⟩ : ∃ u4, u4 = wc := ⟨_, rfl⟩
          obtain ⟨rfl, rfl, rfl, hb⟩ := hcut
          replace hB := Below.step hb hB hB.size
          replace ba0 := Box.step hb ba0
          replace ba1 := Box.step hb ba1
          replace qh0a := RS.step hb qh0a
          replace qh1a := RS.step hb qh1a
          have hS := Below.refl u4.heap.size u4
          have hBS := hB.size
          go_upto_region 9 with fail
          go_cut [9] (fun s9 wx => ∃ A49a c49a B49, s9 = .pointer (some ⟨B49, 0, none⟩) ∧ Box wx B49 [.int .i64 y0a, .int .i64 y0b, (.slice A49a y0lc.length c49a)] ∧ u4.heap.size ≤ B49 ∧ OwnS wx 1 A49a y0lc.length c49a 3 (ints y0lc) ∧ (∀ x, x ∈ gOf A49a → u4.heap.size ≤ x) ∧ (∀ x, x ∈ gOf A49a → x ≠ B49) ∧ Below u4.heap.size u4 wx)
          case first =>
            obtain ⟨zb4a, cb4a0, cb4a1, cb4a2⟩ := (Box.step hS ba0).open3
            go_wp2_with fail
            refine (L_toImageM (x0 := y0a) (x1 := y0b) (l0 := y0lc) _ by0lc (RS.step (by repeat (first | (with_reducible exact Below.refl _ _) | (with_reducible assumption) | ((with_reducible refine Below.alloc ?_ ?_ _); rotate_left; (first | omega | (simp <;> omega))) | ((with_reducible refine Below.setCell ?_ ?_ _); rotate_left; (first | omega | (simp <;> omega))) | (with_reducible refine below_drewN ?_ _) | (with_reducible refine Below.drew ?_) | ((with_reducible refine Below.step (by assumption) ?_ ?_); rotate_left; (first | omega | (simp <;> omega))))) (RS.step hS qh0a))).mono ?_
            rintro e v4a ⟨Tv4aa, kv4aa, rfl, ov4aa, gev4aa, hbv4a⟩
            have hzv4a := hbv4a.size; (try simp at hzv4a)
            have cv4aa := fun o => hbv4a.cell (p := ⟨w.heap.size, o, none⟩) (by first | omega | (simp <;> omega))
            have zv4aa : w.heap.size < v4a.heap.size := (by first | omega | (simp <;> omega))
            have ev4aa : ¬ w.heap.size = v4a.heap.size := (by omega)
            have gv4aa : ¬ v4a.heap.size = w.heap.size := (by omega)
            go_wp2_with fail
            go_meet
            exact ⟨Tv4aa, kv4aa, _, rfl, Box.mk3 (by first | omega | (simp <;> omega)) (by go_simp) (by go_simp) (by go_simp), (by first | omega | (simp <;> omega)), (by repeat (first | (with_reducible exact ov4aa) | ((with_reducible refine OwnS.far ?_ (fun x hx => ?_) _); rotate_left; (have h1 := gev4aa x hx; have h2 := OwnS.lt ov4aa x hx; (try simp at h1); first | omega | (simp <;> omega))) | (with_reducible refine OwnS.alloc ?_ _) | (with_reducible refine OwnS.drewN ?_ _) | (with_reducible refine OwnS.drew ?_) | (with_reducible refine OwnS.step (by assumption) ?_))), (fun x hx => by have h1 := gev4aa x hx; (try simp at h1); omega), (fun x hx => by have h1 := gev4aa x hx; have h2 := OwnS.lt ov4aa x hx; (try simp at h1); first | omega | (simp <;> omega)), (by repeat (first | (with_reducible exact Below.refl _ _) | (with_reducible assumption) | ((with_reducible refine Below.alloc ?_ ?_ _); rotate_left; (first | omega | (simp <;> omega))) | ((with_reducible refine Below.setCell ?_ ?_ _); rotate_left; (first | omega | (simp <;> omega))) | (with_reducible refine below_drewN ?_ _) | (with_reducible refine Below.drew ?_) | ((with_reducible refine Below.step (by assumption) ?_ ?_); rotate_left; (first | omega | (simp <;> omega)))))⟩
          case rest =>
            obtain ⟨u5, rfl⟩ : ∃ u5, u5 = wc := ⟨_, rfl⟩
            obtain ⟨A49a, c49a, B49, rfl, bx49, bg49, o49a, ge49a, ne490, hb⟩ := hcut
            replace hB := Below.step hb hB hB.size
            have hSs := hS.size
            replace hS := Below.step hb hS hS.size
            clear hb
            go_upto_region 10 with fail
            go_cut [10] (fun s10 wx => ∃ A510a c510a B510, s10 = .pointer (some ⟨B510, 0, none⟩) ∧ Box wx B510 [.int .i64 y1a, .int .i64 y1b, (.slice A510a y1lc.length c510a)] ∧ u5.heap.size ≤ B510 ∧ OwnS wx 1 A510a y1lc.length c510a 3 (ints y1lc) ∧ (∀ x, x ∈ gOf A510a → u5.heap.size ≤ x) ∧ (∀ x, x ∈ gOf A510a → x ≠ B510) ∧ Below u5.heap.size u5 wx)
            case first =>
              obtain ⟨zb5a, cb5a0, cb5a1, cb5a2⟩ := (Box.step hS ba1).open3
              go_wp2_with fail
              refine (L_toImageM (x0 := y1a) (x1 := y1b) (l0 := y1lc) _ by1lc (RS.step (by repeat (first | (with_reducible exact Below.refl _ _) | (with_reducible assumption) | ((with_reducible refine Below.alloc ?_ ?_ _); rotate_left; (first | omega | (simp <;> omega))) | ((with_reducible refine Below.setCell ?_ ?_ _); rotate_left; (first | omega | (simp <;> omega))) | (with_reducible refine below_drewN ?_ _) | (with_reducible refine Below.drew ?_) | ((with_reducible refine Below.step (by assumption) ?_ ?_); rotate_left; (first | omega | (simp <;> omega))))) (RS.step hS qh1a))).mono ?_
              rintro e v5a ⟨Tv5aa, kv5aa, rfl, ov5aa, gev5aa, hbv5a⟩
              have hzv5a := hbv5a.size; (try simp at hzv5a)
              have cv5aa := fun o => hbv5a.cell (p := ⟨w.heap.size + 1, o, none⟩) (by first | omega | (simp <;> omega))
              have zv5aa : w.heap.size + 1 < v5a.heap.size := (by first | omega | (simp <;> omega))
              have ev5aa : ¬ w.heap.size + 1 = v5a.heap.size := (by omega)
              have gv5aa : ¬ v5a.heap.size = w.heap.size + 1 := (by omega)
              go_wp2_with fail
              go_meet
              exact ⟨Tv5aa, kv5aa, _, rfl, Box.mk3 (by first | omega | (simp <;> omega)) (by go_simp) (by go_simp) (by go_simp), (by first | omega | (simp <;> omega)), (by repeat (first | (with_reducible exact ov5aa) | ((with_reducible refine OwnS.far ?_ (fun x hx => ?_) _); rotate_left; (have h1 := gev5aa x hx; have h2 := OwnS.lt ov5aa x hx; (try simp at h1); first | omega | (simp <;> omega))) | (with_reducible refine OwnS.alloc ?_ _) | (with_reducible refine OwnS.drewN ?_ _) | (with_reducible refine OwnS.drew ?_) | (with_reducible refine OwnS.step (by assumption) ?_))), (fun x hx => by have h1 := gev5aa x hx; (try simp at h1); omega), (fun x hx => by have h1 := gev5aa x hx; have h2 := OwnS.lt ov5aa x hx; (try simp at h1); first | omega | (simp <;> omega)), (by repeat (first | (with_reducible exact Below.refl _ _) | (with_reducible assumption) | ((with_reducible refine Below.alloc ?_ ?_ _); rotate_left; (first | omega | (simp <;> omega))) | ((with_reducible refine Below.setCell ?_ ?_ _); rotate_left; (first | omega | (simp <;> omega))) | (with_reducible refine below_drewN ?_ _) | (with_reducible refine Below.drew ?_) | ((with_reducible refine Below.step (by assumption) ?_ ?_); rotate_left; (first | omega | (simp <;> omega)))))⟩
            case rest =>
              obtain ⟨u6, rfl⟩ : ∃ u6, u6 = wc := ⟨_, rfl⟩
              obtain ⟨A510a, c510a, B510, rfl, bx510, bg510, o510a, ge510a, ne5100, hb⟩ := hcut
              have lto49a5 := OwnS.lt o49a
              have lbbx495 := bx49.lt
              replace hB := Below.step hb hB hB.size
              have hSs := hS.size
              replace hS := Below.step hb hS hS.size
              replace bx49 := Box.step hb bx49
              replace o49a := OwnS.step hb o49a
              clear hb
              go_upto_region 11 with fail
              go_cut [11, 12, 13] (fun s11 s12 s13 wx => s11 = (.int .i64 r0) ∧ s12 = (.int .i64 r1) ∧ s13 = (.bool r2) ∧ Below u6.heap.size u6 wx)
              case first =>
                obtain ⟨zb6a, cb6a0, cb6a1, cb6a2⟩ := bx49.open3
                obtain ⟨zb6b, cb6b0, cb6b1, cb6b2⟩ := bx510.open3
                go_wp2_with fail
                refine (HI.out _ _ _ _ _ (RS.step (by repeat (first | (with_reducible exact Below.refl _ _) | (with_reducible assumption) | ((with_reducible refine Below.alloc ?_ ?_ _); rotate_left; (first | omega | (simp <;> omega))) | ((with_reducible refine Below.setCell ?_ ?_ _); rotate_left; (first | omega | (simp <;> omega))) | (with_reducible refine below_drewN ?_ _) | (with_reducible refine Below.drew ?_) | ((with_reducible refine Below.step (by assumption) ?_ ?_); rotate_left; (first | omega | (simp <;> omega))))) (OwnS.rs o49a)) (RS.step (by repeat (first | (with_reducible exact Below.refl _ _) | (with_reducible assumption) | ((with_reducible refine Below.alloc ?_ ?_ _); rotate_left; (first | omega | (simp <;> omega))) | ((with_reducible refine Below.setCell ?_ ?_ _); rotate_left; (first | omega | (simp <;> omega))) | (with_reducible refine below_drewN ?_ _) | (with_reducible refine Below.drew ?_) | ((with_reducible refine Below.step (by assumption) ?_ ?_); rotate_left; (first | omega | (simp <;> omega))))) (OwnS.rs o510a))).mono ?_
                rintro e v6a ⟨rfl, hbv6a⟩
                have hzv6a := hbv6a.size; (try simp at hzv6a)
                have cv6aa := fun o => hbv6a.cell (p := ⟨B49, o, none⟩) (by first | omega | (simp <;> omega))
                have zv6aa : B49 < v6a.heap.size := (by first | omega | (simp <;> omega))
                have ev6aa : ¬ B49 = v6a.heap.size := (by omega)
                have gv6aa : ¬ v6a.heap.size = B49 := (by omega)
                have cv6ab := fun o => hbv6a.cell (p := ⟨B510, o, none⟩) (by first | omega | (simp <;> omega))
                have zv6ab : B510 < v6a.heap.size := (by first | omega | (simp <;> omega))
                have ev6ab : ¬ B510 = v6a.heap.size := (by omega)
                have gv6ab : ¬ v6a.heap.size = B510 := (by omega)
                go_wp2_with fail
                go_meet
                exact ⟨rfl, rfl, rfl, (by repeat (first | (with_reducible exact Below.refl _ _) | (with_reducible assumption) | ((with_reducible refine Below.alloc ?_ ?_ _); rotate_left; (first | omega | (simp <;> omega))) | ((with_reducible refine Below.setCell ?_ ?_ _); rotate_left; (first | omega | (simp <;> omega))) | (with_reducible refine below_drewN ?_ _) | (with_reducible refine Below.drew ?_) | ((with_reducible refine Below.step (by assumption) ?_ ?_); rotate_left; (first | omega | (simp <;> omega)))))⟩
              case rest =>
                obtain ⟨u7, rfl⟩ : ∃ u7, u7 = wc := ⟨_, rfl⟩
                obtain ⟨rfl, rfl, rfl, hb⟩ := hcut
                have lto49a6 := OwnS.lt o49a
                have lbbx496 := bx49.lt
                have lto510a6 := OwnS.lt o510a
                have lbbx5106 := bx510.lt
                replace hB := Below.step hb hB hB.size
                have hSs := hS.size
                replace hS := Below.step hb hS hS.size
                replace bx49 := Box.step hb bx49
                replace o49a := OwnS.step hb o49a
                replace bx510 := Box.step hb bx510
                replace o510a := OwnS.step hb o510a
                clear hb
                go_upto_region 14 with fail
                go_cut [61] (fun sd wx => sd = .bool false ∧ Below u7.heap.size u7 wx)
                case first =>
                  obtain ⟨zb7a, cb7a0, cb7a1, cb7a2⟩ := bx49.open3
                  obtain ⟨zb7b, cb7b0, cb7b1, cb7b2⟩ := (Box.step hS ba0).open3
                  go_region_held3 (fun w' => w'.cell? ⟨B49, 0, none⟩ = some (.int .i64 y0a) ∧ w'.cell? ⟨B49, 1, none⟩ = some (.int .i64 y0b) ∧ w'.cell? ⟨B49, 2, none⟩ = some ((.slice A49a y0lc.length c49a)) ∧ w'.cell? ⟨w.heap.size, 0, none⟩ = some (.int .i64 y0a) ∧ w'.cell? ⟨w.heap.size, 1, none⟩ = some (.int .i64 y0b) ∧ w'.cell? ⟨w.heap.size, 2, none⟩ = some ((.slice A0a y0lc.length p0a)))
                    (first | ((try dsimp only); refine ⟨?_, ?_, ?_, ?_, ?_, ?_⟩ <;> (go_simp; done)) | go_keep)
                    (first | (go_at_call 27; (with_reducible refine (L_toImageM (x0 := y0a) (x1 := y0b) (l0 := y0lc) _ by0lc (RS.step (by repeat (first | (with_reducible exact Below.refl _ _) | (with_reducible assumption) | ((with_reducible refine Below.alloc ?_ ?_ _); rotate_left; (first | omega | (simp <;> omega))) | ((with_reducible refine Below.setCell ?_ ?_ _); rotate_left; (first | omega | (simp <;> omega))) | (with_reducible refine below_drewN ?_ _) | (with_reducible refine Below.drew ?_) | ((with_reducible refine Below.step (by assumption) ?_ ?_); rotate_left; (first | omega | (simp <;> omega))))) (RS.step hS qh0a))).mono ?_); rintro e v7a ⟨Tv7aa, kv7aa, rfl, ov7aa, gev7aa, hbv7a⟩; have hzv7a := hbv7a.size; (try simp at hzv7a); have cv7aa := fun o => hbv7a.cell (p := ⟨B49, o, none⟩) (by first | omega | (simp <;> omega)); have zv7aa : B49 < v7a.heap.size := (by first | omega | (simp <;> omega)); have ev7aa : ¬ B49 = v7a.heap.size := (by omega); have gv7aa : ¬ v7a.heap.size = B49 := (by omega); have cv7ab := fun o => hbv7a.cell (p := ⟨w.heap.size, o, none⟩) (by first | omega | (simp <;> omega)); have zv7ab : w.heap.size < v7a.heap.size := (by first | omega | (simp <;> omega)); have ev7ab : ¬ w.heap.size = v7a.heap.size := (by omega); have gv7ab : ¬ v7a.heap.size = w.heap.size := (by omega)) | (go_at_call 29; (with_reducible refine (L_eqImage _ (RS.step (by repeat (first | (with_reducible exact Below.refl _ _) | (with_reducible assumption) | ((with_reducible refine Below.alloc ?_ ?_ _); rotate_left; (first | omega | (simp <;> omega))) | ((with_reducible refine Below.setCell ?_ ?_ _); rotate_left; (first | omega | (simp <;> omega))) | (with_reducible refine below_drewN ?_ _) | (with_reducible refine Below.drew ?_) | ((with_reducible refine Below.step (by assumption) ?_ ?_); rotate_left; (first | omega | (simp <;> omega))))) (OwnS.rs o49a)) (RS.step (by repeat (first | (with_reducible exact Below.refl _ _) | (with_reducible assumption) | ((with_reducible refine Below.alloc ?_ ?_ _); rotate_left; (first | omega | (simp <;> omega))) | ((with_reducible refine Below.setCell ?_ ?_ _); rotate_left; (first | omega | (simp <;> omega))) | (with_reducible refine below_drewN ?_ _) | (with_reducible refine Below.drew ?_) | ((with_reducible refine Below.step (by assumption) ?_ ?_); rotate_left; (first | omega | (simp <;> omega))))) (OwnS.rs ov7aa))).mono ?_); rintro e v7b ⟨rfl, hbv7b⟩; have hzv7b := hbv7b.size; (try simp at hzv7b); have cv7ba := fun o => hbv7b.cell (p := ⟨B49, o, none⟩) (by first | omega | (simp <;> omega)); have zv7ba : B49 < v7b.heap.size := (by first | omega | (simp <;> omega)); have ev7ba : ¬ B49 = v7b.heap.size := (by omega); have gv7ba : ¬ v7b.heap.size = B49 := (by omega); have cv7bb := fun o => hbv7b.cell (p := ⟨w.heap.size, o, none⟩) (by first | omega | (simp <;> omega)); have zv7bb : w.heap.size < v7b.heap.size := (by first | omega | (simp <;> omega)); have ev7bb : ¬ w.heap.size = v7b.heap.size := (by omega); have gv7bb : ¬ v7b.heap.size = w.heap.size := (by omega)))
                  all_goals
                    go_wp2_with fail
                    go_meet
                    exact ⟨rfl, (by repeat (first | (with_reducible exact Below.refl _ _) | (with_reducible assumption) | ((with_reducible refine Below.alloc ?_ ?_ _); rotate_left; (first | omega | (simp <;> omega))) | ((with_reducible refine Below.setCell ?_ ?_ _); rotate_left; (first | omega | (simp <;> omega))) | (with_reducible refine below_drewN ?_ _) | (with_reducible refine Below.drew ?_) | ((with_reducible refine Below.step (by assumption) ?_ ?_); rotate_left; (first | omega | (simp <;> omega)))))⟩
                case rest =>
                  obtain ⟨u8, rfl⟩ : ∃ u8, u8 = wc := ⟨_, rfl⟩
                  obtain ⟨rfl, hb⟩ := hcut
                  replace hB := Below.step hb hB hB.size
                  replace hS := Below.step hb hS hS.size
                  replace bx49 := Box.step hb bx49
                  replace o49a := OwnS.step hb o49a
                  replace bx510 := Box.step hb bx510
                  replace o510a := OwnS.step hb o510a
                  clear hb
                  go_upto_region 16 with fail
                  go_cut [66] (fun sd wx => sd = .bool false ∧ Below u8.heap.size u8 wx)
                  case first =>
                    obtain ⟨zb8a, cb8a0, cb8a1, cb8a2⟩ := bx510.open3
                    obtain ⟨zb8b, cb8b0, cb8b1, cb8b2⟩ := (Box.step hS ba1).open3
                    go_region_held3 (fun w' => w'.cell? ⟨B510, 0, none⟩ = some (.int .i64 y1a) ∧ w'.cell? ⟨B510, 1, none⟩ = some (.int .i64 y1b) ∧ w'.cell? ⟨B510, 2, none⟩ = some ((.slice A510a y1lc.length c510a)) ∧ w'.cell? ⟨w.heap.size + 1, 0, none⟩ = some (.int .i64 y1a) ∧ w'.cell? ⟨w.heap.size + 1, 1, none⟩ = some (.int .i64 y1b) ∧ w'.cell? ⟨w.heap.size + 1, 2, none⟩ = some ((.slice A1a y1lc.length p1a)))
                      (first | ((try dsimp only); refine ⟨?_, ?_, ?_, ?_, ?_, ?_⟩ <;> (go_simp; done)) | go_keep)
                      (first | (go_at_call 27; (with_reducible refine (L_toImageM (x0 := y1a) (x1 := y1b) (l0 := y1lc) _ by1lc (RS.step (by repeat (first | (with_reducible exact Below.refl _ _) | (with_reducible assumption) | ((with_reducible refine Below.alloc ?_ ?_ _); rotate_left; (first | omega | (simp <;> omega))) | ((with_reducible refine Below.setCell ?_ ?_ _); rotate_left; (first | omega | (simp <;> omega))) | (with_reducible refine below_drewN ?_ _) | (with_reducible refine Below.drew ?_) | ((with_reducible refine Below.step (by assumption) ?_ ?_); rotate_left; (first | omega | (simp <;> omega))))) (RS.step hS qh1a))).mono ?_); rintro e v8a ⟨Tv8aa, kv8aa, rfl, ov8aa, gev8aa, hbv8a⟩; have hzv8a := hbv8a.size; (try simp at hzv8a); have cv8aa := fun o => hbv8a.cell (p := ⟨B510, o, none⟩) (by first | omega | (simp <;> omega)); have zv8aa : B510 < v8a.heap.size := (by first | omega | (simp <;> omega)); have ev8aa : ¬ B510 = v8a.heap.size := (by omega); have gv8aa : ¬ v8a.heap.size = B510 := (by omega); have cv8ab := fun o => hbv8a.cell (p := ⟨w.heap.size + 1, o, none⟩) (by first | omega | (simp <;> omega)); have zv8ab : w.heap.size + 1 < v8a.heap.size := (by first | omega | (simp <;> omega)); have ev8ab : ¬ w.heap.size + 1 = v8a.heap.size := (by omega); have gv8ab : ¬ v8a.heap.size = w.heap.size + 1 := (by omega)) | (go_at_call 29; (with_reducible refine (L_eqImage _ (RS.step (by repeat (first | (with_reducible exact Below.refl _ _) | (with_reducible assumption) | ((with_reducible refine Below.alloc ?_ ?_ _); rotate_left; (first | omega | (simp <;> omega))) | ((with_reducible refine Below.setCell ?_ ?_ _); rotate_left; (first | omega | (simp <;> omega))) | (with_reducible refine below_drewN ?_ _) | (with_reducible refine Below.drew ?_) | ((with_reducible refine Below.step (by assumption) ?_ ?_); rotate_left; (first | omega | (simp <;> omega))))) (OwnS.rs o510a)) (RS.step (by repeat (first | (with_reducible exact Below.refl _ _) | (with_reducible assumption) | ((with_reducible refine Below.alloc ?_ ?_ _); rotate_left; (first | omega | (simp <;> omega))) | ((with_reducible refine Below.setCell ?_ ?_ _); rotate_left; (first | omega | (simp <;> omega))) | (with_reducible refine below_drewN ?_ _) | (with_reducible refine Below.drew ?_) | ((with_reducible refine Below.step (by assumption) ?_ ?_); rotate_left; (first | omega | (simp <;> omega))))) (OwnS.rs ov8aa))).mono ?_); rintro e v8b ⟨rfl, hbv8b⟩; have hzv8b := hbv8b.size; (try simp at hzv8b); have cv8ba := fun o => hbv8b.cell (p := ⟨B510, o, none⟩) (by first | omega | (simp <;> omega)); have zv8ba : B510 < v8b.heap.size := (by first | omega | (simp <;> omega)); have ev8ba : ¬ B510 = v8b.heap.size := (by omega); have gv8ba : ¬ v8b.heap.size = B510 := (by omega); have cv8bb := fun o => hbv8b.cell (p := ⟨w.heap.size + 1, o, none⟩) (by first | omega | (simp <;> omega)); have zv8bb : w.heap.size + 1 < v8b.heap.size := (by first | omega | (simp <;> omega)); have ev8bb : ¬ w.heap.size + 1 = v8b.heap.size := (by omega); have gv8bb : ¬ v8b.heap.size = w.heap.size + 1 := (by omega)))
                    all_goals
                      go_wp2_with fail
                      go_meet
                      exact ⟨rfl, (by repeat (first | (with_reducible exact Below.refl _ _) | (with_reducible assumption) | ((with_reducible refine Below.alloc ?_ ?_ _); rotate_left; (first | omega | (simp <;> omega))) | ((with_reducible refine Below.setCell ?_ ?_ _); rotate_left; (first | omega | (simp <;> omega))) | (with_reducible refine below_drewN ?_ _) | (with_reducible refine Below.drew ?_) | ((with_reducible refine Below.step (by assumption) ?_ ?_); rotate_left; (first | omega | (simp <;> omega)))))⟩
                  case rest =>
                    obtain ⟨u9, rfl⟩ : ∃ u9, u9 = wc := ⟨_, rfl⟩
                    obtain ⟨rfl, hb⟩ := hcut
                    replace hB := Below.step hb hB hB.size
                    replace hS := Below.step hb hS hS.size
                    replace bx49 := Box.step hb bx49
                    replace o49a := OwnS.step hb o49a
                    replace bx510 := Box.step hb bx510
                    replace o510a := OwnS.step hb o510a
                    clear hb
                    go_wp2
                    go_ret
                    exact ⟨rfl, hB⟩
theorem L_ExCompareImages (y0a y0b : Int) (y0lc : List Int) (A0a : Option Addr) (p0a : Nat) (y1a y1b : Int) (y1lc : List Int) (A1a : Option Addr) (p1a : Nat) (w : World) (h0a : RS w 1 A0a y0lc.length p0a (ints y0lc)) (h1a : RS w 1 A1a y1lc.length p1a (ints y1lc)) :
    Calls Try.prog 5 #[(vImage y0a y0b (.slice A0a y0lc.length p0a)), (vImage y1a y1b (.slice A1a y1lc.length p1a))] w fun e w' => e = .returned (.bool true) ∧ Below w.heap.size w w' := by
  obtain ⟨p, q, b, hv⟩ := cmpV_form y0a y0b y0lc y1a y1b y1lc
  exact L_ExCompareImages1 y0a y0b y0lc A0a p0a y1a y1b y1lc A1a p1a p q b w h0a h1a (Lib.hid fun A c A' c' wx h h' => (hv ▸ S_CompareImages wx h h')) (Lib.hid fun A c A' c' wx h h' => (hv ▸ I_CompareImages wx h h'))
theorem FnExactCompareImages_walk : LawWalk 5 [40, 40] := by
  intro H enc W base args ds ps hA hval hlt
  obtain ⟨v0, v1, rfl, a0, a1⟩ := args2 hA hval
  obtain ⟨y0a, y0b, A0a, p0a, y0lc, rfl, h0a⟩ := a0.image
  obtain ⟨y1a, y1b, A1a, p1a, y1lc, rfl, h1a⟩ := a1.image
  exact L_ExCompareImages y0a y0b y0lc A0a p0a y1a y1b y1lc A1a p1a W h0a h1a
end Go.Proofs.Ytndipkclmecpoaa
