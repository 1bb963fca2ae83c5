/- MADE BY PROGRAM (genlaw.py). The law FnExactTexel. -/
import Derived.Test.YtndipkclmecpoaaTexel
import Derived.Test.YtndipkclmecpoaaMade
import Derived.Deep.RegionHeld3
import Derived.Deep.DeepCutAuto
namespace Go.Proofs.Ytndipkclmecpoaa
open Go.ChangeShapes Go.WideShapes Go.ChangeAt Go.RowKit
set_option linter.unusedVariables false
set_option maxRecDepth 100000
set_option maxHeartbeats 8000000 in
theorem L_ExTexel1 (y0a : Int) (y0lb : List Int) (A0a : Option Addr) (p0a : Nat) (y1 : Int) (y2 : Int) (r0 : Int) (w : World) (h0a : RS w 1 A0a y0lb.length p0a (ints y0lb))  (HS : Hid (∀ (A0a : Option Addr) (p0a : Nat), ∀ (wx : World), RS wx 1 A0a y0lb.length p0a (ints y0lb) → Calls Try.prog 16 #[(vTexture y0a (.slice A0a y0lb.length p0a)), (.int .i64 y1), (.int .i64 y2)] wx (fun e w' => e = .returned (.int .i64 r0) ∧ Below wx.heap.size wx w'))) (HI : Hid (∀ (A0a : Option Addr) (p0a : Nat), ∀ (wx : World), RS wx 1 A0a y0lb.length p0a (ints y0lb) → Calls Try.prog 18 #[(vTexture y0a (.slice A0a y0lb.length p0a)), (.int .i64 y1), (.int .i64 y2)] wx (fun e w' => e = .returned (.int .i64 r0) ∧ Below wx.heap.size wx w'))) :
    Calls Try.prog 3 #[(vTexture y0a (.slice A0a y0lb.length p0a)), (.int .i64 y1), (.int .i64 y2)] w fun e w' => e = .returned (.bool true) ∧ Below w.heap.size w w' := by
  have mh0a := h0a.len
  unfold maxLen at *
  go_enter Try.func3, Try.ntmps3
  go_upto_region 1 with fail
  go_cut [7] (fun sl wx => sl = .int .i64 1048576 ∧ Box wx (w.heap.size) [.int .i64 y0a, (.slice A0a y0lb.length p0a)] ∧ RS wx 1 A0a y0lb.length p0a (ints y0lb) ∧ Below w.heap.size w wx)
  case first =>
    go_wp2_with fail
    go_meet
    exact ⟨rfl, Box.of_own (t := 24) (by repeat (first | (exact Own.at_lit (by simp)) | (with_reducible refine Own.alloc ?_ _))), (RS.step (by repeat (first | (with_reducible exact Below.refl _ _) | (with_reducible assumption) | ((with_reducible refine Below.alloc ?_ ?_ _); rotate_left; (first | omega | (simp <;> omega))) | ((with_reducible refine Below.setCell ?_ ?_ _); rotate_left; (first | omega | (simp <;> omega))) | (with_reducible refine below_drewN ?_ _) | (with_reducible refine Below.drew ?_) | ((with_reducible refine Below.step (by assumption) ?_ ?_); rotate_left; (first | omega | (simp <;> omega))))) h0a), (by repeat (first | (with_reducible exact Below.refl _ _) | (with_reducible assumption) | ((with_reducible refine Below.alloc ?_ ?_ _); rotate_left; (first | omega | (simp <;> omega))) | ((with_reducible refine Below.setCell ?_ ?_ _); rotate_left; (first | omega | (simp <;> omega))) | (with_reducible refine below_drewN ?_ _) | (with_reducible refine Below.drew ?_) | ((with_reducible refine Below.step (by assumption) ?_ ?_); rotate_left; (first | omega | (simp <;> omega)))))⟩
  case rest =>
    obtain ⟨u1, rfl⟩ : ∃ u1, u1 = wc := ⟨_, rfl⟩
    obtain ⟨rfl, ba0, qh0a, hB⟩ := hcut
    go_upto_region 2 with fail
    go_cut [7] (fun sl wx => (sl = .int .i64 (-1) ∨ ∃ z : Int, sl = .int .i64 z ∧ 0 ≤ z ∧ z ≤ 1048576 ∧ (y0lb.length : Int) ≤ 1048576) ∧ Below u1.heap.size u1 wx)
    case first =>
      obtain ⟨zb1a, cb1a0, cb1a1⟩ := ba0.open2
      go_wp2_with fail
      refine (L_szTexture _ (by first | omega | assumption) (by first | omega | assumption) (by unfold maxLen; first | omega | assumption)).mono ?_
      rintro e v1a ⟨rfl, hbv1a⟩
      have hzv1a := hbv1a.size; (try simp at hzv1a)
      have cv1aa := fun o => hbv1a.cell (p := ⟨w.heap.size, o, none⟩) (by first | omega | (simp <;> omega))
      have zv1aa : w.heap.size < v1a.heap.size := (by first | omega | (simp <;> omega))
      have ev1aa : ¬ w.heap.size = v1a.heap.size := (by omega)
      have gv1aa : ¬ v1a.heap.size = w.heap.size := (by omega)
      go_wp2_with fail
      go_meet
      rcases szF_or (1048576) y0lb.length with hq | ⟨hq0, hq1, hq2⟩
      · exact ⟨.inl (by rw [hq]), (by repeat (first | (with_reducible exact Below.refl _ _) | (with_reducible assumption) | ((with_reducible refine Below.alloc ?_ ?_ _); rotate_left; (first | omega | (simp <;> omega))) | ((with_reducible refine Below.setCell ?_ ?_ _); rotate_left; (first | omega | (simp <;> omega))) | (with_reducible refine below_drewN ?_ _) | (with_reducible refine Below.drew ?_) | ((with_reducible refine Below.step (by assumption) ?_ ?_); rotate_left; (first | omega | (simp <;> omega)))))⟩
      · exact ⟨.inr ⟨_, rfl, hq0, hq1, hq2⟩, (by repeat (first | (with_reducible exact Below.refl _ _) | (with_reducible assumption) | ((with_reducible refine Below.alloc ?_ ?_ _); rotate_left; (first | omega | (simp <;> omega))) | ((with_reducible refine Below.setCell ?_ ?_ _); rotate_left; (first | omega | (simp <;> omega))) | (with_reducible refine below_drewN ?_ _) | (with_reducible refine Below.drew ?_) | ((with_reducible refine Below.step (by assumption) ?_ ?_); rotate_left; (first | omega | (simp <;> omega)))))⟩
    case rest =>
      obtain ⟨u2, rfl⟩ : ∃ u2, u2 = wc := ⟨_, rfl⟩
      obtain ⟨hsl, hb⟩ := hcut
      replace hB := Below.step hb hB hB.size
      replace ba0 := Box.step hb ba0
      replace qh0a := RS.step hb qh0a
      clear hb
      rcases hsl with rfl | ⟨z1, rfl, hz10, hz11, hz12⟩
      · go_wp2
        go_ret
        exact ⟨rfl, hB⟩
      have by0lb : y0lb.length ≤ 1048576 := by omega
      have t1 : ¬ z1 < 0 := by omega
      go_upto_region 5 with fail
      go_cut [8] (fun s8 wx => s8 = (.int .i64 r0) ∧ Below u2.heap.size u2 wx)
      case first =>
        obtain ⟨zb2a, cb2a0, cb2a1⟩ := ba0.open2
        go_wp2_with fail
        refine (L_toTextureM (x0 := y0a) (l0 := y0lb) _ by0lb (RS.step (by repeat (first | (with_reducible exact Below.refl _ _) | (with_reducible assumption) | ((with_reducible refine Below.alloc ?_ ?_ _); rotate_left; (first | omega | (simp <;> omega))) | ((with_reducible refine Below.setCell ?_ ?_ _); rotate_left; (first | omega | (simp <;> omega))) | (with_reducible refine below_drewN ?_ _) | (with_reducible refine Below.drew ?_) | ((with_reducible refine Below.step (by assumption) ?_ ?_); rotate_left; (first | omega | (simp <;> omega))))) qh0a)).mono ?_
        rintro e v2a ⟨Tv2aa, kv2aa, rfl, ov2aa, gev2aa, hbv2a⟩
        have hzv2a := hbv2a.size; (try simp at hzv2a)
        have cv2aa := fun o => hbv2a.cell (p := ⟨w.heap.size, o, none⟩) (by first | omega | (simp <;> omega))
        have zv2aa : w.heap.size < v2a.heap.size := (by first | omega | (simp <;> omega))
        have ev2aa : ¬ w.heap.size = v2a.heap.size := (by omega)
        have gv2aa : ¬ v2a.heap.size = w.heap.size := (by omega)
        go_wp2_with fail
        refine (HS.out _ _ _ (RS.step (by repeat (first | (with_reducible exact Below.refl _ _) | (with_reducible assumption) | ((with_reducible refine Below.alloc ?_ ?_ _); rotate_left; (first | omega | (simp <;> omega))) | ((with_reducible refine Below.setCell ?_ ?_ _); rotate_left; (first | omega | (simp <;> omega))) | (with_reducible refine below_drewN ?_ _) | (with_reducible refine Below.drew ?_) | ((with_reducible refine Below.step (by assumption) ?_ ?_); rotate_left; (first | omega | (simp <;> omega))))) (OwnS.rs ov2aa))).mono ?_
        rintro e v2b ⟨rfl, hbv2b⟩
        have hzv2b := hbv2b.size; (try simp at hzv2b)
        have cv2ba := fun o => hbv2b.cell (p := ⟨w.heap.size, o, none⟩) (by first | omega | (simp <;> omega))
        have zv2ba : w.heap.size < v2b.heap.size := (by first | omega | (simp <;> omega))
        have ev2ba : ¬ w.heap.size = v2b.heap.size := (by omega)
        have gv2ba : ¬ v2b.heap.size = w.heap.size := (by omega)
        go_wp2_with fail
        go_meet
        exact ⟨rfl, (by repeat (first | (with_reducible exact Below.refl _ _) | (with_reducible assumption) | ((with_reducible refine Below.alloc ?_ ?_ _); rotate_left; (first | omega | (simp <;> omega))) | ((with_reducible refine Below.setCell ?_ ?_ _); rotate_left; (first | omega | (simp <;> omega))) | (with_reducible refine below_drewN ?_ _) | (with_reducible refine Below.drew ?_) | ((with_reducible refine Below.step (by assumption) ?_ ?_); rotate_left; (first | omega | (simp <;> omega)))))⟩
      case rest =>
        obtain ⟨u3, rfl⟩ : ∃ u3, u3 = wc := ⟨_, rfl⟩
        obtain ⟨rfl, hb⟩ := hcut
        replace hB := Below.step hb hB hB.size
        replace ba0 := Box.step hb ba0
        replace qh0a := RS.step hb qh0a
        have hS := Below.refl u3.heap.size u3
        have hBS := hB.size
        go_upto_region 6 with fail
        go_cut [9] (fun s9 wx => ∃ A39a c39a B39, s9 = .pointer (some ⟨B39, 0, none⟩) ∧ Box wx B39 [.int .i64 y0a, (.slice A39a y0lb.length c39a)] ∧ u3.heap.size ≤ B39 ∧ OwnS wx 1 A39a y0lb.length c39a 3 (ints y0lb) ∧ (∀ x, x ∈ gOf A39a → u3.heap.size ≤ x) ∧ (∀ x, x ∈ gOf A39a → x ≠ B39) ∧ Below u3.heap.size u3 wx)
        case first =>
          obtain ⟨zb3a, cb3a0, cb3a1⟩ := (Box.step hS ba0).open2
          go_wp2_with fail
          refine (L_toTextureM (x0 := y0a) (l0 := y0lb) _ by0lb (RS.step (by repeat (first | (with_reducible exact Below.refl _ _) | (with_reducible assumption) | ((with_reducible refine Below.alloc ?_ ?_ _); rotate_left; (first | omega | (simp <;> omega))) | ((with_reducible refine Below.setCell ?_ ?_ _); rotate_left; (first | omega | (simp <;> omega))) | (with_reducible refine below_drewN ?_ _) | (with_reducible refine Below.drew ?_) | ((with_reducible refine Below.step (by assumption) ?_ ?_); rotate_left; (first | omega | (simp <;> omega))))) (RS.step hS qh0a))).mono ?_
          rintro e v3a ⟨Tv3aa, kv3aa, rfl, ov3aa, gev3aa, hbv3a⟩
          have hzv3a := hbv3a.size; (try simp at hzv3a)
          have cv3aa := fun o => hbv3a.cell (p := ⟨w.heap.size, o, none⟩) (by first | omega | (simp <;> omega))
          have zv3aa : w.heap.size < v3a.heap.size := (by first | omega | (simp <;> omega))
          have ev3aa : ¬ w.heap.size = v3a.heap.size := (by omega)
          have gv3aa : ¬ v3a.heap.size = w.heap.size := (by omega)
          go_wp2_with fail
          go_meet
          exact ⟨Tv3aa, kv3aa, _, rfl, Box.mk2 (by first | omega | (simp <;> omega)) (by go_simp) (by go_simp), (by first | omega | (simp <;> omega)), (by repeat (first | (with_reducible exact ov3aa) | ((with_reducible refine OwnS.far ?_ (fun x hx => ?_) _); rotate_left; (have h1 := gev3aa x hx; have h2 := OwnS.lt ov3aa x hx; (try simp at h1); first | omega | (simp <;> omega))) | (with_reducible refine OwnS.alloc ?_ _) | (with_reducible refine OwnS.drewN ?_ _) | (with_reducible refine OwnS.drew ?_) | (with_reducible refine OwnS.step (by assumption) ?_))), (fun x hx => by have h1 := gev3aa x hx; (try simp at h1); first | omega | (simp <;> omega)), (fun x hx => by have h1 := gev3aa x hx; have h2 := OwnS.lt ov3aa x hx; (try simp at h1); first | omega | (simp <;> omega)), (by repeat (first | (with_reducible exact Below.refl _ _) | (with_reducible assumption) | ((with_reducible refine Below.alloc ?_ ?_ _); rotate_left; (first | omega | (simp <;> omega))) | ((with_reducible refine Below.setCell ?_ ?_ _); rotate_left; (first | omega | (simp <;> omega))) | (with_reducible refine below_drewN ?_ _) | (with_reducible refine Below.drew ?_) | ((with_reducible refine Below.step (by assumption) ?_ ?_); rotate_left; (first | omega | (simp <;> omega)))))⟩
        case rest =>
          obtain ⟨u4, rfl⟩ : ∃ u4, u4 = wc := ⟨_, rfl⟩
          obtain ⟨A39a, c39a, B39, rfl, bx39, bg39, o39a, ge39a, ne390, hb⟩ := hcut
          replace hB := Below.step hb hB hB.size
          have hSs := hS.size
          replace hS := Below.step hb hS hS.size
          clear hb
          go_upto_region 7 with fail
          go_cut [10] (fun s10 wx => s10 = (.int .i64 r0) ∧ Below u4.heap.size u4 wx)
          case first =>
            obtain ⟨zb4a, cb4a0, cb4a1⟩ := bx39.open2
            go_wp2_with fail
            refine (HI.out _ _ _ (RS.step (by repeat (first | (with_reducible exact Below.refl _ _) | (with_reducible assumption) | ((with_reducible refine Below.alloc ?_ ?_ _); rotate_left; (first | omega | (simp <;> omega))) | ((with_reducible refine Below.setCell ?_ ?_ _); rotate_left; (first | omega | (simp <;> omega))) | (with_reducible refine below_drewN ?_ _) | (with_reducible refine Below.drew ?_) | ((with_reducible refine Below.step (by assumption) ?_ ?_); rotate_left; (first | omega | (simp <;> omega))))) (OwnS.rs o39a))).mono ?_
            rintro e v4a ⟨rfl, hbv4a⟩
            have hzv4a := hbv4a.size; (try simp at hzv4a)
            have cv4aa := fun o => hbv4a.cell (p := ⟨B39, o, none⟩) (by first | omega | (simp <;> omega))
            have zv4aa : B39 < v4a.heap.size := (by first | omega | (simp <;> omega))
            have ev4aa : ¬ B39 = v4a.heap.size := (by omega)
            have gv4aa : ¬ v4a.heap.size = B39 := (by omega)
            go_wp2_with fail
            go_meet
            exact ⟨rfl, (by repeat (first | (with_reducible exact Below.refl _ _) | (with_reducible assumption) | ((with_reducible refine Below.alloc ?_ ?_ _); rotate_left; (first | omega | (simp <;> omega))) | ((with_reducible refine Below.setCell ?_ ?_ _); rotate_left; (first | omega | (simp <;> omega))) | (with_reducible refine below_drewN ?_ _) | (with_reducible refine Below.drew ?_) | ((with_reducible refine Below.step (by assumption) ?_ ?_); rotate_left; (first | omega | (simp <;> omega)))))⟩
          case rest =>
            obtain ⟨u5, rfl⟩ : ∃ u5, u5 = wc := ⟨_, rfl⟩
            obtain ⟨rfl, hb⟩ := hcut
            have lto39a4 := OwnS.lt o39a
            have lbbx394 := bx39.lt
            replace hB := Below.step hb hB hB.size
            have hSs := hS.size
            replace hS := Below.step hb hS hS.size
            replace bx39 := Box.step hb bx39
            replace o39a := OwnS.step hb o39a
            clear hb
            go_upto_region 10 with fail
            go_cut [34] (fun sd wx => sd = .bool false ∧ Below u5.heap.size u5 wx)
            case first =>
              obtain ⟨zb5a, cb5a0, cb5a1⟩ := bx39.open2
              obtain ⟨zb5b, cb5b0, cb5b1⟩ := (Box.step hS ba0).open2
              go_region_held3 (fun w' => w'.cell? ⟨B39, 0, none⟩ = some (.int .i64 y0a) ∧ w'.cell? ⟨B39, 1, none⟩ = some ((.slice A39a y0lb.length c39a)) ∧ w'.cell? ⟨w.heap.size, 0, none⟩ = some (.int .i64 y0a) ∧ w'.cell? ⟨w.heap.size, 1, none⟩ = some ((.slice A0a y0lb.length p0a)))
                (first | ((try dsimp only); refine ⟨?_, ?_, ?_, ?_⟩ <;> (go_simp; done)) | go_keep)
                (first | (go_at_call 17; (with_reducible refine (L_toTextureM (x0 := y0a) (l0 := y0lb) _ by0lb (RS.step (by repeat (first | (with_reducible exact Below.refl _ _) | (with_reducible assumption) | ((with_reducible refine Below.alloc ?_ ?_ _); rotate_left; (first | omega | (simp <;> omega))) | ((with_reducible refine Below.setCell ?_ ?_ _); rotate_left; (first | omega | (simp <;> omega))) | (with_reducible refine below_drewN ?_ _) | (with_reducible refine Below.drew ?_) | ((with_reducible refine Below.step (by assumption) ?_ ?_); rotate_left; (first | omega | (simp <;> omega))))) (RS.step hS qh0a))).mono ?_); rintro e v5a ⟨Tv5aa, kv5aa, rfl, ov5aa, gev5aa, hbv5a⟩; have hzv5a := hbv5a.size; (try simp at hzv5a); have cv5aa := fun o => hbv5a.cell (p := ⟨B39, o, none⟩) (by first | omega | (simp <;> omega)); have zv5aa : B39 < v5a.heap.size := (by first | omega | (simp <;> omega)); have ev5aa : ¬ B39 = v5a.heap.size := (by omega); have gv5aa : ¬ v5a.heap.size = B39 := (by omega); have cv5ab := fun o => hbv5a.cell (p := ⟨w.heap.size, o, none⟩) (by first | omega | (simp <;> omega)); have zv5ab : w.heap.size < v5a.heap.size := (by first | omega | (simp <;> omega)); have ev5ab : ¬ w.heap.size = v5a.heap.size := (by omega); have gv5ab : ¬ v5a.heap.size = w.heap.size := (by omega)) | (go_at_call 19; (with_reducible refine (L_eqTexture _ (RS.step (by repeat (first | (with_reducible exact Below.refl _ _) | (with_reducible assumption) | ((with_reducible refine Below.alloc ?_ ?_ _); rotate_left; (first | omega | (simp <;> omega))) | ((with_reducible refine Below.setCell ?_ ?_ _); rotate_left; (first | omega | (simp <;> omega))) | (with_reducible refine below_drewN ?_ _) | (with_reducible refine Below.drew ?_) | ((with_reducible refine Below.step (by assumption) ?_ ?_); rotate_left; (first | omega | (simp <;> omega))))) (OwnS.rs o39a)) (RS.step (by repeat (first | (with_reducible exact Below.refl _ _) | (with_reducible assumption) | ((with_reducible refine Below.alloc ?_ ?_ _); rotate_left; (first | omega | (simp <;> omega))) | ((with_reducible refine Below.setCell ?_ ?_ _); rotate_left; (first | omega | (simp <;> omega))) | (with_reducible refine below_drewN ?_ _) | (with_reducible refine Below.drew ?_) | ((with_reducible refine Below.step (by assumption) ?_ ?_); rotate_left; (first | omega | (simp <;> omega))))) (OwnS.rs ov5aa))).mono ?_); rintro e v5b ⟨rfl, hbv5b⟩; have hzv5b := hbv5b.size; (try simp at hzv5b); have cv5ba := fun o => hbv5b.cell (p := ⟨B39, o, none⟩) (by first | omega | (simp <;> omega)); have zv5ba : B39 < v5b.heap.size := (by first | omega | (simp <;> omega)); have ev5ba : ¬ B39 = v5b.heap.size := (by omega); have gv5ba : ¬ v5b.heap.size = B39 := (by omega); have cv5bb := fun o => hbv5b.cell (p := ⟨w.heap.size, o, none⟩) (by first | omega | (simp <;> omega)); have zv5bb : w.heap.size < v5b.heap.size := (by first | omega | (simp <;> omega)); have ev5bb : ¬ w.heap.size = v5b.heap.size := (by omega); have gv5bb : ¬ v5b.heap.size = w.heap.size := (by omega)))
              all_goals
                go_wp2_with fail
                go_meet
                exact ⟨rfl, (by repeat (first | (with_reducible exact Below.refl _ _) | (with_reducible assumption) | ((with_reducible refine Below.alloc ?_ ?_ _); rotate_left; (first | omega | (simp <;> omega))) | ((with_reducible refine Below.setCell ?_ ?_ _); rotate_left; (first | omega | (simp <;> omega))) | (with_reducible refine below_drewN ?_ _) | (with_reducible refine Below.drew ?_) | ((with_reducible refine Below.step (by assumption) ?_ ?_); rotate_left; (first | omega | (simp <;> omega)))))⟩
            case rest =>
              obtain ⟨u6, rfl⟩ : ∃ u6, u6 = wc := ⟨_, rfl⟩
              obtain ⟨rfl, hb⟩ := hcut
              replace hB := Below.step hb hB hB.size
              replace hS := Below.step hb hS hS.size
              replace bx39 := Box.step hb bx39
              replace o39a := OwnS.step hb o39a
              clear hb
              go_wp2
              go_ret
              exact ⟨rfl, hB⟩
theorem L_ExTexel (y0a : Int) (y0lb : List Int) (A0a : Option Addr) (p0a : Nat) (y1 : Int) (y2 : Int) (w : World) (ny1 : -9223372036854775808 ≤ y1 ∧ y1 ≤ 9223372036854775807) (ny2 : -9223372036854775808 ≤ y2 ∧ y2 ≤ 9223372036854775807) (h0a : RS w 1 A0a y0lb.length p0a (ints y0lb)) :
    Calls Try.prog 3 #[(vTexture y0a (.slice A0a y0lb.length p0a)), (.int .i64 y1), (.int .i64 y2)] w fun e w' => e = .returned (.bool true) ∧ Below w.heap.size w w' := by
  exact L_ExTexel1 y0a y0lb A0a p0a y1 y2 _ w h0a (Lib.hid fun A p wx h => S_Texel wx h ny1 ny2) (Lib.hid fun A p wx h => I_Texel wx h ny1 ny2)
theorem FnExactTexel_walk : LawWalk 3 [24, 3, 3] := by
  intro H enc W base args ds ps hA hval hlt
  obtain ⟨v0, v1, v2, rfl, a0, a1, a2⟩ := args3 hA hval
  obtain ⟨y0a, A0a, p0a, y0lb, rfl, h0a⟩ := a0.texture
  obtain ⟨y1, rfl, f1⟩ := a1.int Try.underlying3
  obtain ⟨y2, rfl, f2⟩ := a2.int Try.underlying3
  exact L_ExTexel y0a y0lb A0a p0a y1 y2 W (range_i64 f1) (range_i64 f2) h0a
end Go.Proofs.Ytndipkclmecpoaa
