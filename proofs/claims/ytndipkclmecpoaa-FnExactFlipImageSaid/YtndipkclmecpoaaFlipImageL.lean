/- MADE BY PROGRAM (genlaw.py). The law FnExactFlipImage. -/
import Derived.Test.YtndipkclmecpoaaFlipI
import Derived.Test.YtndipkclmecpoaaMade
import Derived.Deep.RegionHeld3
import Derived.Deep.DeepCutAuto
namespace Go.Proofs.Ytndipkclmecpoaa
open Go.ChangeShapes Go.WideShapes Go.ChangeAt Go.RowKit
set_option linter.unusedVariables false
set_option maxRecDepth 100000
set_option maxHeartbeats 8000000 in
theorem L_ExFlipImage1 (y0a y0b : Int) (y0lc : List Int) (A0a : Option Addr) (p0a : Nat) (r0a r0b : Int) (r0lc : List Int) (w : World) (h0a : RS w 1 A0a y0lc.length p0a (ints y0lc)) (br0lc' : y0lc.length ≤ 1048576 → r0lc.length ≤ 1048576) (HS : Hid (y0lc.length ≤ 1048576 → ∀ (A0a : Option Addr) (p0a : Nat), ∀ (wx : World), RS wx 1 A0a y0lc.length p0a (ints y0lc) → Calls Try.prog 53 #[(vImage y0a y0b (.slice A0a y0lc.length p0a))] wx (MadeImage (fun s0 => (vImage r0a r0b s0)) r0lc.length (ints r0lc) wx))) (HI : Hid (y0lc.length ≤ 1048576 → ∀ (A0a : Option Addr) (p0a : Nat), ∀ (wx : World), RS wx 1 A0a y0lc.length p0a (ints y0lc) → Calls Try.prog 54 #[(vImage y0a y0b (.slice A0a y0lc.length p0a))] wx (MadeImage (fun s0 => (vImage r0a r0b s0)) r0lc.length (ints r0lc) wx))) :
    Calls Try.prog 12 #[(vImage y0a y0b (.slice A0a y0lc.length p0a))] w fun e w' => e = .returned (.bool true) ∧ Below w.heap.size w w' := by
  have mh0a := h0a.len
  unfold maxLen at *
  go_enter Try.func12, Try.ntmps12
  go_upto_region 1 with fail
  go_cut [3] (fun sl wx => sl = .int .i64 1048576 ∧ Box wx (w.heap.size) [.int .i64 y0a, .int .i64 y0b, (.slice A0a y0lc.length p0a)] ∧ RS wx 1 A0a y0lc.length p0a (ints y0lc) ∧ Below w.heap.size w wx)
  case first =>
    go_wp2_with fail
    go_meet
    exact ⟨rfl, Box.of_own (t := 40) (by repeat (first | (exact Own.at_lit (by simp)) | (with_reducible refine Own.alloc ?_ _))), (RS.step (by repeat (first | (with_reducible exact Below.refl _ _) | (with_reducible assumption) | ((with_reducible refine Below.alloc ?_ ?_ _); rotate_left; (first | omega | (simp <;> omega))) | ((with_reducible refine Below.setCell ?_ ?_ _); rotate_left; (first | omega | (simp <;> omega))) | (with_reducible refine below_drewN ?_ _) | (with_reducible refine Below.drew ?_) | ((with_reducible refine Below.step (by assumption) ?_ ?_); rotate_left; (first | omega | (simp <;> omega))))) h0a), (by repeat (first | (with_reducible exact Below.refl _ _) | (with_reducible assumption) | ((with_reducible refine Below.alloc ?_ ?_ _); rotate_left; (first | omega | (simp <;> omega))) | ((with_reducible refine Below.setCell ?_ ?_ _); rotate_left; (first | omega | (simp <;> omega))) | (with_reducible refine below_drewN ?_ _) | (with_reducible refine Below.drew ?_) | ((with_reducible refine Below.step (by assumption) ?_ ?_); rotate_left; (first | omega | (simp <;> omega)))))⟩
  case rest =>
    obtain ⟨u1, rfl⟩ : ∃ u1, u1 = wc := ⟨_, rfl⟩
    obtain ⟨rfl, ba0, qh0a, hB⟩ := hcut
    go_upto_region 2 with fail
    go_cut [3] (fun sl wx => (sl = .int .i64 (-1) ∨ ∃ z : Int, sl = .int .i64 z ∧ 0 ≤ z ∧ z ≤ 1048576 ∧ (y0lc.length : Int) ≤ 1048576) ∧ Below u1.heap.size u1 wx)
    case first =>
      obtain ⟨zb1a, cb1a0, cb1a1, cb1a2⟩ := ba0.open3
      go_wp2_with fail
      refine (L_szImage _ (by first | omega | assumption) (by first | omega | assumption) (by unfold maxLen; first | omega | assumption)).mono ?_
      rintro e v1a ⟨rfl, hbv1a⟩
      have hzv1a := hbv1a.size; (try simp at hzv1a)
      have cv1aa := fun o => hbv1a.cell (p := ⟨w.heap.size, o, none⟩) (by first | omega | (simp <;> omega))
      have zv1aa : w.heap.size < v1a.heap.size := (by first | omega | (simp <;> omega))
      have ev1aa : ¬ w.heap.size = v1a.heap.size := (by omega)
      have gv1aa : ¬ v1a.heap.size = w.heap.size := (by omega)
      go_wp2_with fail
      go_meet
      rcases szF_or (1048576) y0lc.length with hq | ⟨hq0, hq1, hq2⟩
      · exact ⟨.inl (by rw [hq]), (by repeat (first | (with_reducible exact Below.refl _ _) | (with_reducible assumption) | ((with_reducible refine Below.alloc ?_ ?_ _); rotate_left; (first | omega | (simp <;> omega))) | ((with_reducible refine Below.setCell ?_ ?_ _); rotate_left; (first | omega | (simp <;> omega))) | (with_reducible refine below_drewN ?_ _) | (with_reducible refine Below.drew ?_) | ((with_reducible refine Below.step (by assumption) ?_ ?_); rotate_left; (first | omega | (simp <;> omega)))))⟩
      · exact ⟨.inr ⟨_, rfl, hq0, hq1, hq2⟩, (by repeat (first | (with_reducible exact Below.refl _ _) | (with_reducible assumption) | ((with_reducible refine Below.alloc ?_ ?_ _); rotate_left; (first | omega | (simp <;> omega))) | ((with_reducible refine Below.setCell ?_ ?_ _); rotate_left; (first | omega | (simp <;> omega))) | (with_reducible refine below_drewN ?_ _) | (with_reducible refine Below.drew ?_) | ((with_reducible refine Below.step (by assumption) ?_ ?_); rotate_left; (first | omega | (simp <;> omega)))))⟩
    case rest =>
      obtain ⟨u2, rfl⟩ : ∃ u2, u2 = wc := ⟨_, rfl⟩
      obtain ⟨hsl, hb⟩ := hcut
      replace hB := Below.step hb hB hB.size
      replace ba0 := Box.step hb ba0
      replace qh0a := RS.step hb qh0a
      clear hb
      rcases hsl with rfl | ⟨z1, rfl, hz10, hz11, hz12⟩
      · go_wp2
        go_ret
        exact ⟨rfl, hB⟩
      have by0lc : y0lc.length ≤ 1048576 := by omega
      have br0lc := br0lc' by0lc
      have HS := Lib.hid (HS.out by0lc)
      have HI := Lib.hid (HI.out by0lc)
      have t1 : ¬ z1 < 0 := by omega
      go_upto_region 5 with fail
      go_cut [4] (fun s4 wx => ∃ A24a c24a B24, s4 = .pointer (some ⟨B24, 0, none⟩) ∧ Box wx B24 [.int .i64 r0a, .int .i64 r0b, (.slice A24a r0lc.length c24a)] ∧ u2.heap.size ≤ B24 ∧ OwnS wx 1 A24a r0lc.length c24a 3 (ints r0lc) ∧ (∀ x, x ∈ gOf A24a → u2.heap.size ≤ x) ∧ (∀ x, x ∈ gOf A24a → x ≠ B24) ∧ Below u2.heap.size u2 wx)
      case first =>
        obtain ⟨zb2a, cb2a0, cb2a1, cb2a2⟩ := ba0.open3
        go_wp2_with fail
        refine (L_toImageM (x0 := y0a) (x1 := y0b) (l0 := y0lc) _ by0lc (RS.step (by repeat (first | (with_reducible exact Below.refl _ _) | (with_reducible assumption) | ((with_reducible refine Below.alloc ?_ ?_ _); rotate_left; (first | omega | (simp <;> omega))) | ((with_reducible refine Below.setCell ?_ ?_ _); rotate_left; (first | omega | (simp <;> omega))) | (with_reducible refine below_drewN ?_ _) | (with_reducible refine Below.drew ?_) | ((with_reducible refine Below.step (by assumption) ?_ ?_); rotate_left; (first | omega | (simp <;> omega))))) qh0a)).mono ?_
        rintro e v2a ⟨Tv2aa, kv2aa, rfl, ov2aa, gev2aa, hbv2a⟩
        have hzv2a := hbv2a.size; (try simp at hzv2a)
        have cv2aa := fun o => hbv2a.cell (p := ⟨w.heap.size, o, none⟩) (by first | omega | (simp <;> omega))
        have zv2aa : w.heap.size < v2a.heap.size := (by first | omega | (simp <;> omega))
        have ev2aa : ¬ w.heap.size = v2a.heap.size := (by omega)
        have gv2aa : ¬ v2a.heap.size = w.heap.size := (by omega)
        go_wp2_with fail
        refine (HS.out _ _ _ (RS.step (by repeat (first | (with_reducible exact Below.refl _ _) | (with_reducible assumption) | ((with_reducible refine Below.alloc ?_ ?_ _); rotate_left; (first | omega | (simp <;> omega))) | ((with_reducible refine Below.setCell ?_ ?_ _); rotate_left; (first | omega | (simp <;> omega))) | (with_reducible refine below_drewN ?_ _) | (with_reducible refine Below.drew ?_) | ((with_reducible refine Below.step (by assumption) ?_ ?_); rotate_left; (first | omega | (simp <;> omega))))) (OwnS.rs ov2aa))).mono ?_
        rintro e v2b ⟨Tv2ba, kv2ba, rfl, ov2ba, gev2ba, hbv2b⟩
        have hzv2b := hbv2b.size; (try simp at hzv2b)
        have cv2ba := fun o => hbv2b.cell (p := ⟨w.heap.size, o, none⟩) (by first | omega | (simp <;> omega))
        have zv2ba : w.heap.size < v2b.heap.size := (by first | omega | (simp <;> omega))
        have ev2ba : ¬ w.heap.size = v2b.heap.size := (by omega)
        have gv2ba : ¬ v2b.heap.size = w.heap.size := (by omega)
        go_wp2_with fail
        go_meet
        exact ⟨Tv2ba, kv2ba, _, rfl, Box.mk3 (by first | omega | (simp <;> omega)) (by go_simp) (by go_simp) (by go_simp), (by first | omega | (simp <;> omega)), (by repeat (first | (with_reducible exact ov2ba) | ((with_reducible refine OwnS.far ?_ (fun x hx => ?_) _); rotate_left; (have h1 := gev2ba x hx; have h2 := OwnS.lt ov2ba x hx; (try simp at h1); first | omega | (simp <;> omega))) | (with_reducible refine OwnS.alloc ?_ _) | (with_reducible refine OwnS.drewN ?_ _) | (with_reducible refine OwnS.drew ?_) | (with_reducible refine OwnS.step (by assumption) ?_))), (fun x hx => by have h1 := gev2ba x hx; (try simp at h1); first | omega | (simp <;> omega)), (fun x hx => by have h1 := gev2ba x hx; have h2 := OwnS.lt ov2ba x hx; (try simp at h1); first | omega | (simp <;> omega)), (by repeat (first | (with_reducible exact Below.refl _ _) | (with_reducible assumption) | ((with_reducible refine Below.alloc ?_ ?_ _); rotate_left; (first | omega | (simp <;> omega))) | ((with_reducible refine Below.setCell ?_ ?_ _); rotate_left; (first | omega | (simp <;> omega))) | (with_reducible refine below_drewN ?_ _) | (with_reducible refine Below.drew ?_) | ((with_reducible refine Below.step (by assumption) ?_ ?_); rotate_left; (first | omega | (simp <;> omega)))))⟩
      case rest =>
        obtain ⟨u3, rfl⟩ : ∃ u3, u3 = wc := ⟨_, rfl⟩
        obtain ⟨A24a, c24a, B24, rfl, bx24, bg24, o24a, ge24a, ne240, hb⟩ := hcut
        replace hB := Below.step hb hB hB.size
        replace ba0 := Box.step hb ba0
        replace qh0a := RS.step hb qh0a
        replace o24a := OwnS.rs o24a
        have hS := Below.refl u3.heap.size u3
        have hBS := hB.size
        go_upto_region 6 with fail
        go_cut [5] (fun s5 wx => ∃ A35a c35a B35, s5 = .pointer (some ⟨B35, 0, none⟩) ∧ Box wx B35 [.int .i64 y0a, .int .i64 y0b, (.slice A35a y0lc.length c35a)] ∧ u3.heap.size ≤ B35 ∧ OwnS wx 1 A35a y0lc.length c35a 3 (ints y0lc) ∧ (∀ x, x ∈ gOf A35a → u3.heap.size ≤ x) ∧ (∀ x, x ∈ gOf A35a → x ≠ B35) ∧ Below u3.heap.size u3 wx)
        case first =>
          obtain ⟨zb3a, cb3a0, cb3a1, cb3a2⟩ := (Box.step hS ba0).open3
          go_wp2_with fail
          refine (L_toImageM (x0 := y0a) (x1 := y0b) (l0 := y0lc) _ by0lc (RS.step (by repeat (first | (with_reducible exact Below.refl _ _) | (with_reducible assumption) | ((with_reducible refine Below.alloc ?_ ?_ _); rotate_left; (first | omega | (simp <;> omega))) | ((with_reducible refine Below.setCell ?_ ?_ _); rotate_left; (first | omega | (simp <;> omega))) | (with_reducible refine below_drewN ?_ _) | (with_reducible refine Below.drew ?_) | ((with_reducible refine Below.step (by assumption) ?_ ?_); rotate_left; (first | omega | (simp <;> omega))))) (RS.step hS qh0a))).mono ?_
          rintro e v3a ⟨Tv3aa, kv3aa, rfl, ov3aa, gev3aa, hbv3a⟩
          have hzv3a := hbv3a.size; (try simp at hzv3a)
          have cv3aa := fun o => hbv3a.cell (p := ⟨w.heap.size, o, none⟩) (by first | omega | (simp <;> omega))
          have zv3aa : w.heap.size < v3a.heap.size := (by first | omega | (simp <;> omega))
          have ev3aa : ¬ w.heap.size = v3a.heap.size := (by omega)
          have gv3aa : ¬ v3a.heap.size = w.heap.size := (by omega)
          go_wp2_with fail
          go_meet
          exact ⟨Tv3aa, kv3aa, _, rfl, Box.mk3 (by first | omega | (simp <;> omega)) (by go_simp) (by go_simp) (by go_simp), (by first | omega | (simp <;> omega)), (by repeat (first | (with_reducible exact ov3aa) | ((with_reducible refine OwnS.far ?_ (fun x hx => ?_) _); rotate_left; (have h1 := gev3aa x hx; have h2 := OwnS.lt ov3aa x hx; (try simp at h1); first | omega | (simp <;> omega))) | (with_reducible refine OwnS.alloc ?_ _) | (with_reducible refine OwnS.drewN ?_ _) | (with_reducible refine OwnS.drew ?_) | (with_reducible refine OwnS.step (by assumption) ?_))), (fun x hx => by have h1 := gev3aa x hx; (try simp at h1); first | omega | (simp <;> omega)), (fun x hx => by have h1 := gev3aa x hx; have h2 := OwnS.lt ov3aa x hx; (try simp at h1); first | omega | (simp <;> omega)), (by repeat (first | (with_reducible exact Below.refl _ _) | (with_reducible assumption) | ((with_reducible refine Below.alloc ?_ ?_ _); rotate_left; (first | omega | (simp <;> omega))) | ((with_reducible refine Below.setCell ?_ ?_ _); rotate_left; (first | omega | (simp <;> omega))) | (with_reducible refine below_drewN ?_ _) | (with_reducible refine Below.drew ?_) | ((with_reducible refine Below.step (by assumption) ?_ ?_); rotate_left; (first | omega | (simp <;> omega)))))⟩
        case rest =>
          obtain ⟨u4, rfl⟩ : ∃ u4, u4 = wc := ⟨_, rfl⟩
          obtain ⟨A35a, c35a, B35, rfl, bx35, bg35, o35a, ge35a, ne350, hb⟩ := hcut
          replace hB := Below.step hb hB hB.size
          have hSs := hS.size
          replace hS := Below.step hb hS hS.size
          clear hb
          go_upto_region 7 with fail
          go_cut [6] (fun s6 wx => ∃ A46a c46a B46, s6 = .pointer (some ⟨B46, 0, none⟩) ∧ Box wx B46 [.int .i64 r0a, .int .i64 r0b, (.slice A46a r0lc.length c46a)] ∧ u4.heap.size ≤ B46 ∧ OwnS wx 1 A46a r0lc.length c46a 3 (ints r0lc) ∧ (∀ x, x ∈ gOf A46a → u4.heap.size ≤ x) ∧ (∀ x, x ∈ gOf A46a → x ≠ B46) ∧ Below u4.heap.size u4 wx)
          case first =>
            obtain ⟨zb4a, cb4a0, cb4a1, cb4a2⟩ := bx35.open3
            go_wp2_with fail
            refine (HI.out _ _ _ (RS.step (by repeat (first | (with_reducible exact Below.refl _ _) | (with_reducible assumption) | ((with_reducible refine Below.alloc ?_ ?_ _); rotate_left; (first | omega | (simp <;> omega))) | ((with_reducible refine Below.setCell ?_ ?_ _); rotate_left; (first | omega | (simp <;> omega))) | (with_reducible refine below_drewN ?_ _) | (with_reducible refine Below.drew ?_) | ((with_reducible refine Below.step (by assumption) ?_ ?_); rotate_left; (first | omega | (simp <;> omega))))) (OwnS.rs o35a))).mono ?_
            rintro e v4a ⟨Tv4aa, kv4aa, rfl, ov4aa, gev4aa, hbv4a⟩
            have hzv4a := hbv4a.size; (try simp at hzv4a)
            have cv4aa := fun o => hbv4a.cell (p := ⟨B35, o, none⟩) (by first | omega | (simp <;> omega))
            have zv4aa : B35 < v4a.heap.size := (by first | omega | (simp <;> omega))
            have ev4aa : ¬ B35 = v4a.heap.size := (by omega)
            have gv4aa : ¬ v4a.heap.size = B35 := (by omega)
            go_wp2_with fail
            go_meet
            exact ⟨Tv4aa, kv4aa, _, rfl, Box.mk3 (by first | omega | (simp <;> omega)) (by go_simp) (by go_simp) (by go_simp), (by first | omega | (simp <;> omega)), (by repeat (first | (with_reducible exact ov4aa) | ((with_reducible refine OwnS.far ?_ (fun x hx => ?_) _); rotate_left; (have h1 := gev4aa x hx; have h2 := OwnS.lt ov4aa x hx; (try simp at h1); first | omega | (simp <;> omega))) | (with_reducible refine OwnS.alloc ?_ _) | (with_reducible refine OwnS.drewN ?_ _) | (with_reducible refine OwnS.drew ?_) | (with_reducible refine OwnS.step (by assumption) ?_))), (fun x hx => by have h1 := gev4aa x hx; (try simp at h1); first | omega | (simp <;> omega)), (fun x hx => by have h1 := gev4aa x hx; have h2 := OwnS.lt ov4aa x hx; (try simp at h1); first | omega | (simp <;> omega)), (by repeat (first | (with_reducible exact Below.refl _ _) | (with_reducible assumption) | ((with_reducible refine Below.alloc ?_ ?_ _); rotate_left; (first | omega | (simp <;> omega))) | ((with_reducible refine Below.setCell ?_ ?_ _); rotate_left; (first | omega | (simp <;> omega))) | (with_reducible refine below_drewN ?_ _) | (with_reducible refine Below.drew ?_) | ((with_reducible refine Below.step (by assumption) ?_ ?_); rotate_left; (first | omega | (simp <;> omega)))))⟩
          case rest =>
            obtain ⟨u5, rfl⟩ : ∃ u5, u5 = wc := ⟨_, rfl⟩
            obtain ⟨A46a, c46a, B46, rfl, bx46, bg46, o46a, ge46a, ne460, hb⟩ := hcut
            have lto35a4 := OwnS.lt o35a
            have lbbx354 := bx35.lt
            replace hB := Below.step hb hB hB.size
            have hSs := hS.size
            replace hS := Below.step hb hS hS.size
            replace bx35 := Box.step hb bx35
            replace o35a := OwnS.step hb o35a
            clear hb
            go_upto_region 8 with fail
            go_cut [26] (fun sd wx => sd = .bool false ∧ Below u5.heap.size u5 wx)
            case first =>
              obtain ⟨zb5a, cb5a0, cb5a1, cb5a2⟩ := bx46.open3
              obtain ⟨zb5b, cb5b0, cb5b1, cb5b2⟩ := (Box.step hS bx24).open3
              go_wp2_with fail
              refine (L_eqImage _ (RS.step (by repeat (first | (with_reducible exact Below.refl _ _) | (with_reducible assumption) | ((with_reducible refine Below.alloc ?_ ?_ _); rotate_left; (first | omega | (simp <;> omega))) | ((with_reducible refine Below.setCell ?_ ?_ _); rotate_left; (first | omega | (simp <;> omega))) | (with_reducible refine below_drewN ?_ _) | (with_reducible refine Below.drew ?_) | ((with_reducible refine Below.step (by assumption) ?_ ?_); rotate_left; (first | omega | (simp <;> omega))))) (OwnS.rs o46a)) (RS.step (by repeat (first | (with_reducible exact Below.refl _ _) | (with_reducible assumption) | ((with_reducible refine Below.alloc ?_ ?_ _); rotate_left; (first | omega | (simp <;> omega))) | ((with_reducible refine Below.setCell ?_ ?_ _); rotate_left; (first | omega | (simp <;> omega))) | (with_reducible refine below_drewN ?_ _) | (with_reducible refine Below.drew ?_) | ((with_reducible refine Below.step (by assumption) ?_ ?_); rotate_left; (first | omega | (simp <;> omega))))) (RS.step hS o24a))).mono ?_
              rintro e v5a ⟨rfl, hbv5a⟩
              have hzv5a := hbv5a.size; (try simp at hzv5a)
              have cv5aa := fun o => hbv5a.cell (p := ⟨B46, o, none⟩) (by first | omega | (simp <;> omega))
              have zv5aa : B46 < v5a.heap.size := (by first | omega | (simp <;> omega))
              have ev5aa : ¬ B46 = v5a.heap.size := (by omega)
              have gv5aa : ¬ v5a.heap.size = B46 := (by omega)
              have cv5ab := fun o => hbv5a.cell (p := ⟨B24, o, none⟩) (by first | omega | (simp <;> omega))
              have zv5ab : B24 < v5a.heap.size := (by first | omega | (simp <;> omega))
              have ev5ab : ¬ B24 = v5a.heap.size := (by omega)
              have gv5ab : ¬ v5a.heap.size = B24 := (by omega)
              go_wp2_with fail
              go_meet
              exact ⟨rfl, (by repeat (first | (with_reducible exact Below.refl _ _) | (with_reducible assumption) | ((with_reducible refine Below.alloc ?_ ?_ _); rotate_left; (first | omega | (simp <;> omega))) | ((with_reducible refine Below.setCell ?_ ?_ _); rotate_left; (first | omega | (simp <;> omega))) | (with_reducible refine below_drewN ?_ _) | (with_reducible refine Below.drew ?_) | ((with_reducible refine Below.step (by assumption) ?_ ?_); rotate_left; (first | omega | (simp <;> omega)))))⟩
            case rest =>
              obtain ⟨u6, rfl⟩ : ∃ u6, u6 = wc := ⟨_, rfl⟩
              obtain ⟨rfl, hb⟩ := hcut
              replace hB := Below.step hb hB hB.size
              replace hS := Below.step hb hS hS.size
              replace bx35 := Box.step hb bx35
              replace o35a := OwnS.step hb o35a
              replace bx46 := Box.step hb bx46
              replace o46a := OwnS.step hb o46a
              clear hb
              go_upto_region 10 with fail
              go_cut [31] (fun sd wx => sd = .bool false ∧ Below u6.heap.size u6 wx)
              case first =>
                obtain ⟨zb6a, cb6a0, cb6a1, cb6a2⟩ := bx35.open3
                obtain ⟨zb6b, cb6b0, cb6b1, cb6b2⟩ := (Box.step hS ba0).open3
                go_region_held3 (fun w' => w'.cell? ⟨B35, 0, none⟩ = some (.int .i64 y0a) ∧ w'.cell? ⟨B35, 1, none⟩ = some (.int .i64 y0b) ∧ w'.cell? ⟨B35, 2, none⟩ = some ((.slice A35a y0lc.length c35a)) ∧ w'.cell? ⟨w.heap.size, 0, none⟩ = some (.int .i64 y0a) ∧ w'.cell? ⟨w.heap.size, 1, none⟩ = some (.int .i64 y0b) ∧ w'.cell? ⟨w.heap.size, 2, none⟩ = some ((.slice A0a y0lc.length p0a)))
                  (first | ((try dsimp only); refine ⟨?_, ?_, ?_, ?_, ?_, ?_⟩ <;> (go_simp; done)) | go_keep)
                  (first | (go_at_call 27; (with_reducible refine (L_toImageM (x0 := y0a) (x1 := y0b) (l0 := y0lc) _ by0lc (RS.step (by repeat (first | (with_reducible exact Below.refl _ _) | (with_reducible assumption) | ((with_reducible refine Below.alloc ?_ ?_ _); rotate_left; (first | omega | (simp <;> omega))) | ((with_reducible refine Below.setCell ?_ ?_ _); rotate_left; (first | omega | (simp <;> omega))) | (with_reducible refine below_drewN ?_ _) | (with_reducible refine Below.drew ?_) | ((with_reducible refine Below.step (by assumption) ?_ ?_); rotate_left; (first | omega | (simp <;> omega))))) (RS.step hS qh0a))).mono ?_); rintro e v6a ⟨Tv6aa, kv6aa, rfl, ov6aa, gev6aa, hbv6a⟩; have hzv6a := hbv6a.size; (try simp at hzv6a); have cv6aa := fun o => hbv6a.cell (p := ⟨B35, o, none⟩) (by first | omega | (simp <;> omega)); have zv6aa : B35 < v6a.heap.size := (by first | omega | (simp <;> omega)); have ev6aa : ¬ B35 = v6a.heap.size := (by omega); have gv6aa : ¬ v6a.heap.size = B35 := (by omega); have cv6ab := fun o => hbv6a.cell (p := ⟨w.heap.size, o, none⟩) (by first | omega | (simp <;> omega)); have zv6ab : w.heap.size < v6a.heap.size := (by first | omega | (simp <;> omega)); have ev6ab : ¬ w.heap.size = v6a.heap.size := (by omega); have gv6ab : ¬ v6a.heap.size = w.heap.size := (by omega)) | (go_at_call 29; (with_reducible refine (L_eqImage _ (RS.step (by repeat (first | (with_reducible exact Below.refl _ _) | (with_reducible assumption) | ((with_reducible refine Below.alloc ?_ ?_ _); rotate_left; (first | omega | (simp <;> omega))) | ((with_reducible refine Below.setCell ?_ ?_ _); rotate_left; (first | omega | (simp <;> omega))) | (with_reducible refine below_drewN ?_ _) | (with_reducible refine Below.drew ?_) | ((with_reducible refine Below.step (by assumption) ?_ ?_); rotate_left; (first | omega | (simp <;> omega))))) (OwnS.rs o35a)) (RS.step (by repeat (first | (with_reducible exact Below.refl _ _) | (with_reducible assumption) | ((with_reducible refine Below.alloc ?_ ?_ _); rotate_left; (first | omega | (simp <;> omega))) | ((with_reducible refine Below.setCell ?_ ?_ _); rotate_left; (first | omega | (simp <;> omega))) | (with_reducible refine below_drewN ?_ _) | (with_reducible refine Below.drew ?_) | ((with_reducible refine Below.step (by assumption) ?_ ?_); rotate_left; (first | omega | (simp <;> omega))))) (OwnS.rs ov6aa))).mono ?_); rintro e v6b ⟨rfl, hbv6b⟩; have hzv6b := hbv6b.size; (try simp at hzv6b); have cv6ba := fun o => hbv6b.cell (p := ⟨B35, o, none⟩) (by first | omega | (simp <;> omega)); have zv6ba : B35 < v6b.heap.size := (by first | omega | (simp <;> omega)); have ev6ba : ¬ B35 = v6b.heap.size := (by omega); have gv6ba : ¬ v6b.heap.size = B35 := (by omega); have cv6bb := fun o => hbv6b.cell (p := ⟨w.heap.size, o, none⟩) (by first | omega | (simp <;> omega)); have zv6bb : w.heap.size < v6b.heap.size := (by first | omega | (simp <;> omega)); have ev6bb : ¬ w.heap.size = v6b.heap.size := (by omega); have gv6bb : ¬ v6b.heap.size = w.heap.size := (by omega)))
                all_goals
                  go_wp2_with fail
                  go_meet
                  exact ⟨rfl, (by repeat (first | (with_reducible exact Below.refl _ _) | (with_reducible assumption) | ((with_reducible refine Below.alloc ?_ ?_ _); rotate_left; (first | omega | (simp <;> omega))) | ((with_reducible refine Below.setCell ?_ ?_ _); rotate_left; (first | omega | (simp <;> omega))) | (with_reducible refine below_drewN ?_ _) | (with_reducible refine Below.drew ?_) | ((with_reducible refine Below.step (by assumption) ?_ ?_); rotate_left; (first | omega | (simp <;> omega)))))⟩
              case rest =>
                obtain ⟨u7, rfl⟩ : ∃ u7, u7 = wc := ⟨_, rfl⟩
                obtain ⟨rfl, hb⟩ := hcut
                replace hB := Below.step hb hB hB.size
                replace hS := Below.step hb hS hS.size
                replace bx35 := Box.step hb bx35
                replace o35a := OwnS.step hb o35a
                replace bx46 := Box.step hb bx46
                replace o46a := OwnS.step hb o46a
                clear hb
                go_upto_region 13 with fail
                go_cut [7] (fun sd wx => sd = .int .i64 ((1 : Int) + (y0lc.length : Int)) ∧ OwnS wx 1 A35a y0lc.length c35a 3 (ints (upFrom (1 : Int) y0lc.length)) ∧ Only u7.heap.size (gOf A35a) u7 wx)
                case first =>
                  obtain ⟨zb7a, cb7a0, cb7a1, cb7a2⟩ := bx35.open3
                  go_wp2_with fail
                  refine (L_markImageG _ o35a (by omega) (by omega) (by omega)).mono ?_
                  rintro e v7a ⟨rfl, ov7aa, hOv7a⟩
                  have hzv7a := hOv7a.size
                  go_wp2_with fail
                  go_meet
                  exact ⟨rfl, ov7aa, hOv7a⟩
                case rest =>
                  obtain ⟨u8, rfl⟩ : ∃ u8, u8 = wc := ⟨_, rfl⟩
                  obtain ⟨rfl, nw0, hO⟩ := hcut
                  have hG : ∀ y, y ∈ gOf A35a → u3.heap.size ≤ y := ge35a
                  replace hB := hB.trans (hO.below hB.size (fun y hy => by have := hG y hy; omega))
                  replace hS := hS.trans (hO.below hS.size (fun y hy => by have := hG y hy; omega))
                  replace bx35 := Box.only hO bx35 bx35.lt (fun hy => ne350 _ hy rfl)
                  have hL : ∀ y, y ∈ gOf A35a → y < u4.heap.size := lto35a4
                  replace bx46 := Box.only hO bx46 bx46.lt (fun hy => by have := hL _ hy; omega)
                  replace o46a := OwnS.only o46a hO (fun y hy => ⟨OwnS.lt o46a y hy, fun hx => by have h1 := hL y hx; have h2 := ge46a y hy; omega⟩)
                  clear o35a
                  have o35a := nw0
                  clear nw0
                  clear hO hG
                  have t7 : ¬ (1 : Int) + (y0lc.length : Int) < 0 := by omega
                  go_upto_region 14 with fail
                  go_cut [42] (fun sd wx => sd = .bool false ∧ Below u8.heap.size u8 wx)
                  case first =>
                    obtain ⟨zb8a, cb8a0, cb8a1, cb8a2⟩ := bx46.open3
                    obtain ⟨zb8b, cb8b0, cb8b1, cb8b2⟩ := (Box.step hS bx24).open3
                    go_wp2_with fail
                    refine (L_eqImage _ (RS.step (by repeat (first | (with_reducible exact Below.refl _ _) | (with_reducible assumption) | ((with_reducible refine Below.alloc ?_ ?_ _); rotate_left; (first | omega | (simp <;> omega))) | ((with_reducible refine Below.setCell ?_ ?_ _); rotate_left; (first | omega | (simp <;> omega))) | (with_reducible refine below_drewN ?_ _) | (with_reducible refine Below.drew ?_) | ((with_reducible refine Below.step (by assumption) ?_ ?_); rotate_left; (first | omega | (simp <;> omega))))) (OwnS.rs o46a)) (RS.step (by repeat (first | (with_reducible exact Below.refl _ _) | (with_reducible assumption) | ((with_reducible refine Below.alloc ?_ ?_ _); rotate_left; (first | omega | (simp <;> omega))) | ((with_reducible refine Below.setCell ?_ ?_ _); rotate_left; (first | omega | (simp <;> omega))) | (with_reducible refine below_drewN ?_ _) | (with_reducible refine Below.drew ?_) | ((with_reducible refine Below.step (by assumption) ?_ ?_); rotate_left; (first | omega | (simp <;> omega))))) (RS.step hS o24a))).mono ?_
                    rintro e v8a ⟨rfl, hbv8a⟩
                    have hzv8a := hbv8a.size; (try simp at hzv8a)
                    have cv8aa := fun o => hbv8a.cell (p := ⟨B46, o, none⟩) (by first | omega | (simp <;> omega))
                    have zv8aa : B46 < v8a.heap.size := (by first | omega | (simp <;> omega))
                    have ev8aa : ¬ B46 = v8a.heap.size := (by omega)
                    have gv8aa : ¬ v8a.heap.size = B46 := (by omega)
                    have cv8ab := fun o => hbv8a.cell (p := ⟨B24, o, none⟩) (by first | omega | (simp <;> omega))
                    have zv8ab : B24 < v8a.heap.size := (by first | omega | (simp <;> omega))
                    have ev8ab : ¬ B24 = v8a.heap.size := (by omega)
                    have gv8ab : ¬ v8a.heap.size = B24 := (by omega)
                    go_wp2_with fail
                    go_meet
                    exact ⟨rfl, (by repeat (first | (with_reducible exact Below.refl _ _) | (with_reducible assumption) | ((with_reducible refine Below.alloc ?_ ?_ _); rotate_left; (first | omega | (simp <;> omega))) | ((with_reducible refine Below.setCell ?_ ?_ _); rotate_left; (first | omega | (simp <;> omega))) | (with_reducible refine below_drewN ?_ _) | (with_reducible refine Below.drew ?_) | ((with_reducible refine Below.step (by assumption) ?_ ?_); rotate_left; (first | omega | (simp <;> omega)))))⟩
                  case rest =>
                    obtain ⟨u9, rfl⟩ : ∃ u9, u9 = wc := ⟨_, rfl⟩
                    obtain ⟨rfl, hb⟩ := hcut
                    replace hB := Below.step hb hB hB.size
                    replace hS := Below.step hb hS hS.size
                    replace bx35 := Box.step hb bx35
                    replace o35a := OwnS.step hb o35a
                    replace bx46 := Box.step hb bx46
                    replace o46a := OwnS.step hb o46a
                    clear hb
                    go_upto_region 17 with fail
                    go_cut [8] (fun sd wx => sd = .int .i64 ((1 : Int) + (r0lc.length : Int)) ∧ OwnS wx 1 A46a r0lc.length c46a 3 (ints (upFrom (1 : Int) r0lc.length)) ∧ Only u9.heap.size (gOf A46a) u9 wx)
                    case first =>
                      obtain ⟨zb9a, cb9a0, cb9a1, cb9a2⟩ := bx46.open3
                      go_wp2_with fail
                      refine (L_markImageG _ o46a (by omega) (by omega) (by omega)).mono ?_
                      rintro e v9a ⟨rfl, ov9aa, hOv9a⟩
                      have hzv9a := hOv9a.size
                      go_wp2_with fail
                      go_meet
                      exact ⟨rfl, ov9aa, hOv9a⟩
                    case rest =>
                      obtain ⟨u10, rfl⟩ : ∃ u10, u10 = wc := ⟨_, rfl⟩
                      obtain ⟨rfl, nw0, hO⟩ := hcut
                      have hG : ∀ y, y ∈ gOf A46a → u4.heap.size ≤ y := ge46a
                      replace hB := hB.trans (hO.below hB.size (fun y hy => by have := hG y hy; omega))
                      replace hS := hS.trans (hO.below hS.size (fun y hy => by have := hG y hy; omega))
                      replace bx35 := Box.only hO bx35 bx35.lt (fun hy => by have h1 := hG _ hy; have h2 := lbbx354; omega)
                      replace o35a := OwnS.only o35a hO (fun y hy => ⟨OwnS.lt o35a y hy, fun hx => by have h1 := hG y hx; have h2 := lto35a4 y hy; omega⟩)
                      replace bx46 := Box.only hO bx46 bx46.lt (fun hy => ne460 _ hy rfl)
                      clear o46a
                      have o46a := nw0
                      clear nw0
                      clear hO hG
                      have t9 : ¬ (1 : Int) + (r0lc.length : Int) < 0 := by omega
                      go_upto_region 19 with fail
                      go_cut [9] (fun sd wx => sd = .int .i64 ((1 : Int) + (r0lc.length : Int)) ∧ Below u10.heap.size u10 wx)
                      case first =>
                        obtain ⟨zb10a, cb10a0, cb10a1, cb10a2⟩ := bx46.open3
                        go_wp2_with fail
                        refine (L_heldImageG _ o46a (by omega) (by omega) (by omega)).mono ?_
                        rintro e v10a ⟨rfl, hbv10a⟩
                        have hzv10a := hbv10a.size; (try simp at hzv10a)
                        have cv10aa := fun o => hbv10a.cell (p := ⟨B46, o, none⟩) (by first | omega | (simp <;> omega))
                        have zv10aa : B46 < v10a.heap.size := (by first | omega | (simp <;> omega))
                        have ev10aa : ¬ B46 = v10a.heap.size := (by omega)
                        have gv10aa : ¬ v10a.heap.size = B46 := (by omega)
                        go_wp2_with fail
                        go_meet
                        exact ⟨rfl, (by repeat (first | (with_reducible exact Below.refl _ _) | (with_reducible assumption) | ((with_reducible refine Below.alloc ?_ ?_ _); rotate_left; (first | omega | (simp <;> omega))) | ((with_reducible refine Below.setCell ?_ ?_ _); rotate_left; (first | omega | (simp <;> omega))) | (with_reducible refine below_drewN ?_ _) | (with_reducible refine Below.drew ?_) | ((with_reducible refine Below.step (by assumption) ?_ ?_); rotate_left; (first | omega | (simp <;> omega)))))⟩
                      case rest =>
                        obtain ⟨u11, rfl⟩ : ∃ u11, u11 = wc := ⟨_, rfl⟩
                        obtain ⟨rfl, hb⟩ := hcut
                        replace hB := Below.step hb hB hB.size
                        replace hS := Below.step hb hS hS.size
                        replace bx35 := Box.step hb bx35
                        replace o35a := OwnS.step hb o35a
                        replace bx46 := Box.step hb bx46
                        replace o46a := OwnS.step hb o46a
                        clear hb
                        have t10 : ¬ (1 : Int) + (r0lc.length : Int) < 0 := by omega
                        go_upto_region 24 with fail
                        go_cut [10] (fun s10 wx => ∃ A1110a c1110a B1110, s10 = .pointer (some ⟨B1110, 0, none⟩) ∧ Box wx B1110 [.int .i64 r0a, .int .i64 r0b, (.slice A1110a r0lc.length c1110a)] ∧ u11.heap.size ≤ B1110 ∧ OwnS wx 1 A1110a r0lc.length c1110a 3 (ints r0lc) ∧ (∀ x, x ∈ gOf A1110a → u11.heap.size ≤ x) ∧ (∀ x, x ∈ gOf A1110a → x ≠ B1110) ∧ Below u11.heap.size u11 wx)
                        case first =>
                          obtain ⟨zb11a, cb11a0, cb11a1, cb11a2⟩ := (Box.step hS ba0).open3
                          go_wp2_with fail
                          refine (L_toImageM (x0 := y0a) (x1 := y0b) (l0 := y0lc) _ by0lc (RS.step (by repeat (first | (with_reducible exact Below.refl _ _) | (with_reducible assumption) | ((with_reducible refine Below.alloc ?_ ?_ _); rotate_left; (first | omega | (simp <;> omega))) | ((with_reducible refine Below.setCell ?_ ?_ _); rotate_left; (first | omega | (simp <;> omega))) | (with_reducible refine below_drewN ?_ _) | (with_reducible refine Below.drew ?_) | ((with_reducible refine Below.step (by assumption) ?_ ?_); rotate_left; (first | omega | (simp <;> omega))))) (RS.step hS qh0a))).mono ?_
                          rintro e v11a ⟨Tv11aa, kv11aa, rfl, ov11aa, gev11aa, hbv11a⟩
                          have hzv11a := hbv11a.size; (try simp at hzv11a)
                          have cv11aa := fun o => hbv11a.cell (p := ⟨w.heap.size, o, none⟩) (by first | omega | (simp <;> omega))
                          have zv11aa : w.heap.size < v11a.heap.size := (by first | omega | (simp <;> omega))
                          have ev11aa : ¬ w.heap.size = v11a.heap.size := (by omega)
                          have gv11aa : ¬ v11a.heap.size = w.heap.size := (by omega)
                          go_wp2_with fail
                          refine (HI.out _ _ _ (RS.step (by repeat (first | (with_reducible exact Below.refl _ _) | (with_reducible assumption) | ((with_reducible refine Below.alloc ?_ ?_ _); rotate_left; (first | omega | (simp <;> omega))) | ((with_reducible refine Below.setCell ?_ ?_ _); rotate_left; (first | omega | (simp <;> omega))) | (with_reducible refine below_drewN ?_ _) | (with_reducible refine Below.drew ?_) | ((with_reducible refine Below.step (by assumption) ?_ ?_); rotate_left; (first | omega | (simp <;> omega))))) (OwnS.rs ov11aa))).mono ?_
                          rintro e v11b ⟨Tv11ba, kv11ba, rfl, ov11ba, gev11ba, hbv11b⟩
                          have hzv11b := hbv11b.size; (try simp at hzv11b)
                          have cv11ba := fun o => hbv11b.cell (p := ⟨w.heap.size, o, none⟩) (by first | omega | (simp <;> omega))
                          have zv11ba : w.heap.size < v11b.heap.size := (by first | omega | (simp <;> omega))
                          have ev11ba : ¬ w.heap.size = v11b.heap.size := (by omega)
                          have gv11ba : ¬ v11b.heap.size = w.heap.size := (by omega)
                          go_wp2_with fail
                          go_meet
                          exact ⟨Tv11ba, kv11ba, _, rfl, Box.mk3 (by first | omega | (simp <;> omega)) (by go_simp) (by go_simp) (by go_simp), (by first | omega | (simp <;> omega)), (by repeat (first | (with_reducible exact ov11ba) | ((with_reducible refine OwnS.far ?_ (fun x hx => ?_) _); rotate_left; (have h1 := gev11ba x hx; have h2 := OwnS.lt ov11ba x hx; (try simp at h1); first | omega | (simp <;> omega))) | (with_reducible refine OwnS.alloc ?_ _) | (with_reducible refine OwnS.drewN ?_ _) | (with_reducible refine OwnS.drew ?_) | (with_reducible refine OwnS.step (by assumption) ?_))), (fun x hx => by have h1 := gev11ba x hx; (try simp at h1); first | omega | (simp <;> omega)), (fun x hx => by have h1 := gev11ba x hx; have h2 := OwnS.lt ov11ba x hx; (try simp at h1); first | omega | (simp <;> omega)), (by repeat (first | (with_reducible exact Below.refl _ _) | (with_reducible assumption) | ((with_reducible refine Below.alloc ?_ ?_ _); rotate_left; (first | omega | (simp <;> omega))) | ((with_reducible refine Below.setCell ?_ ?_ _); rotate_left; (first | omega | (simp <;> omega))) | (with_reducible refine below_drewN ?_ _) | (with_reducible refine Below.drew ?_) | ((with_reducible refine Below.step (by assumption) ?_ ?_); rotate_left; (first | omega | (simp <;> omega)))))⟩
                        case rest =>
                          obtain ⟨u12, rfl⟩ : ∃ u12, u12 = wc := ⟨_, rfl⟩
                          obtain ⟨A1110a, c1110a, B1110, rfl, bx1110, bg1110, o1110a, ge1110a, ne11100, hb⟩ := hcut
                          have lto35a11 := OwnS.lt o35a
                          have lbbx3511 := bx35.lt
                          have lto46a11 := OwnS.lt o46a
                          have lbbx4611 := bx46.lt
                          replace hB := Below.step hb hB hB.size
                          have hSs := hS.size
                          replace hS := Below.step hb hS hS.size
                          replace bx35 := Box.step hb bx35
                          replace o35a := OwnS.step hb o35a
                          replace bx46 := Box.step hb bx46
                          replace o46a := OwnS.step hb o46a
                          clear hb
                          go_upto_region 25 with fail
                          go_cut [60] (fun sd wx => sd = .bool false ∧ Below u12.heap.size u12 wx)
                          case first =>
                            obtain ⟨zb12a, cb12a0, cb12a1, cb12a2⟩ := bx1110.open3
                            obtain ⟨zb12b, cb12b0, cb12b1, cb12b2⟩ := (Box.step hS bx24).open3
                            go_wp2_with fail
                            refine (L_eqImage _ (RS.step (by repeat (first | (with_reducible exact Below.refl _ _) | (with_reducible assumption) | ((with_reducible refine Below.alloc ?_ ?_ _); rotate_left; (first | omega | (simp <;> omega))) | ((with_reducible refine Below.setCell ?_ ?_ _); rotate_left; (first | omega | (simp <;> omega))) | (with_reducible refine below_drewN ?_ _) | (with_reducible refine Below.drew ?_) | ((with_reducible refine Below.step (by assumption) ?_ ?_); rotate_left; (first | omega | (simp <;> omega))))) (OwnS.rs o1110a)) (RS.step (by repeat (first | (with_reducible exact Below.refl _ _) | (with_reducible assumption) | ((with_reducible refine Below.alloc ?_ ?_ _); rotate_left; (first | omega | (simp <;> omega))) | ((with_reducible refine Below.setCell ?_ ?_ _); rotate_left; (first | omega | (simp <;> omega))) | (with_reducible refine below_drewN ?_ _) | (with_reducible refine Below.drew ?_) | ((with_reducible refine Below.step (by assumption) ?_ ?_); rotate_left; (first | omega | (simp <;> omega))))) (RS.step hS o24a))).mono ?_
                            rintro e v12a ⟨rfl, hbv12a⟩
                            have hzv12a := hbv12a.size; (try simp at hzv12a)
                            have cv12aa := fun o => hbv12a.cell (p := ⟨B1110, o, none⟩) (by first | omega | (simp <;> omega))
                            have zv12aa : B1110 < v12a.heap.size := (by first | omega | (simp <;> omega))
                            have ev12aa : ¬ B1110 = v12a.heap.size := (by omega)
                            have gv12aa : ¬ v12a.heap.size = B1110 := (by omega)
                            have cv12ab := fun o => hbv12a.cell (p := ⟨B24, o, none⟩) (by first | omega | (simp <;> omega))
                            have zv12ab : B24 < v12a.heap.size := (by first | omega | (simp <;> omega))
                            have ev12ab : ¬ B24 = v12a.heap.size := (by omega)
                            have gv12ab : ¬ v12a.heap.size = B24 := (by omega)
                            go_wp2_with fail
                            go_meet
                            exact ⟨rfl, (by repeat (first | (with_reducible exact Below.refl _ _) | (with_reducible assumption) | ((with_reducible refine Below.alloc ?_ ?_ _); rotate_left; (first | omega | (simp <;> omega))) | ((with_reducible refine Below.setCell ?_ ?_ _); rotate_left; (first | omega | (simp <;> omega))) | (with_reducible refine below_drewN ?_ _) | (with_reducible refine Below.drew ?_) | ((with_reducible refine Below.step (by assumption) ?_ ?_); rotate_left; (first | omega | (simp <;> omega)))))⟩
                          case rest =>
                            obtain ⟨u13, rfl⟩ : ∃ u13, u13 = wc := ⟨_, rfl⟩
                            obtain ⟨rfl, hb⟩ := hcut
                            replace hB := Below.step hb hB hB.size
                            replace hS := Below.step hb hS hS.size
                            replace bx35 := Box.step hb bx35
                            replace o35a := OwnS.step hb o35a
                            replace bx46 := Box.step hb bx46
                            replace o46a := OwnS.step hb o46a
                            replace bx1110 := Box.step hb bx1110
                            replace o1110a := OwnS.step hb o1110a
                            clear hb
                            go_upto_region 28 with fail
                            go_cut [9] (fun sd wx => sd = .int .i64 ((1 : Int) + (r0lc.length : Int)) ∧ Below u13.heap.size u13 wx)
                            case first =>
                              obtain ⟨zb13a, cb13a0, cb13a1, cb13a2⟩ := bx46.open3
                              go_wp2_with fail
                              refine (L_heldImageG _ o46a (by omega) (by omega) (by omega)).mono ?_
                              rintro e v13a ⟨rfl, hbv13a⟩
                              have hzv13a := hbv13a.size; (try simp at hzv13a)
                              have cv13aa := fun o => hbv13a.cell (p := ⟨B46, o, none⟩) (by first | omega | (simp <;> omega))
                              have zv13aa : B46 < v13a.heap.size := (by first | omega | (simp <;> omega))
                              have ev13aa : ¬ B46 = v13a.heap.size := (by omega)
                              have gv13aa : ¬ v13a.heap.size = B46 := (by omega)
                              go_wp2_with fail
                              go_meet
                              exact ⟨rfl, (by repeat (first | (with_reducible exact Below.refl _ _) | (with_reducible assumption) | ((with_reducible refine Below.alloc ?_ ?_ _); rotate_left; (first | omega | (simp <;> omega))) | ((with_reducible refine Below.setCell ?_ ?_ _); rotate_left; (first | omega | (simp <;> omega))) | (with_reducible refine below_drewN ?_ _) | (with_reducible refine Below.drew ?_) | ((with_reducible refine Below.step (by assumption) ?_ ?_); rotate_left; (first | omega | (simp <;> omega)))))⟩
                            case rest =>
                              obtain ⟨u14, rfl⟩ : ∃ u14, u14 = wc := ⟨_, rfl⟩
                              obtain ⟨rfl, hb⟩ := hcut
                              replace hB := Below.step hb hB hB.size
                              replace hS := Below.step hb hS hS.size
                              replace bx35 := Box.step hb bx35
                              replace o35a := OwnS.step hb o35a
                              replace bx46 := Box.step hb bx46
                              replace o46a := OwnS.step hb o46a
                              replace bx1110 := Box.step hb bx1110
                              replace o1110a := OwnS.step hb o1110a
                              clear hb
                              have t13 : ¬ (1 : Int) + (r0lc.length : Int) < 0 := by omega
                              go_wp2
                              go_ret
                              exact ⟨rfl, hB⟩
theorem L_ExFlipImage (y0a y0b : Int) (y0lc : List Int) (A0a : Option Addr) (p0a : Nat) (w : World)  (h0a : RS w 1 A0a y0lc.length p0a (ints y0lc)) :
    Calls Try.prog 12 #[(vImage y0a y0b (.slice A0a y0lc.length p0a))] w fun e w' => e = .returned (.bool true) ∧ Below w.heap.size w w' := by
  have hf := flipF_len y0a y0b y0lc
  exact L_ExFlipImage1 y0a y0b y0lc A0a p0a y0a y0b (flipF y0a y0b y0lc) w h0a (by omega) (Lib.hid fun hm A p wx a1 => by have := S_FlipImage (W := y0a) (H := y0b) wx hm a1; rw [hf]; exact this) (Lib.hid fun hm A p wx a1 => by have := I_FlipImage (W := y0a) (H := y0b) wx hm a1; rw [hf]; exact this)
theorem FnExactFlipImage_walk : LawWalk 12 [40] := by
  intro H enc W base args ds ps hA hval hlt
  obtain ⟨v0, rfl, a0⟩ := args1 hA hval
  obtain ⟨y0a, y0b, A0a, p0a, y0lc, rfl, h0a⟩ := a0.image
  exact L_ExFlipImage y0a y0b y0lc A0a p0a W h0a
end Go.Proofs.Ytndipkclmecpoaa
