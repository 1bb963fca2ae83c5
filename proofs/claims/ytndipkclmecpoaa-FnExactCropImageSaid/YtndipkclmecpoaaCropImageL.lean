/- MADE BY PROGRAM (genlaw.py). The law FnExactCropImage. -/
import Derived.Test.YtndipkclmecpoaaCropI
import Derived.Test.YtndipkclmecpoaaMade
import Derived.Deep.RegionHeld3
import Derived.Deep.DeepCutAuto
namespace Go.Proofs.Ytndipkclmecpoaa
open Go.ChangeShapes Go.WideShapes Go.ChangeAt Go.RowKit
set_option linter.unusedVariables false
set_option maxRecDepth 100000
set_option maxHeartbeats 8000000 in
theorem L_ExCropImage1 (y0a y0b : Int) (y0lc : List Int) (A0a : Option Addr) (p0a : Nat) (y1a : Int) (y1b : Int) (y1c : Int) (y1d : Int) (r0a r0b : Int) (r0lc : List Int) (r1 : Bool) (w : World) (h0a : RS w 1 A0a y0lc.length p0a (ints y0lc)) (br0lc : r0lc.length ≤ 1048576) (HS : Hid (∀ (A0a : Option Addr) (p0a : Nat), ∀ (wx : World), RS wx 1 A0a y0lc.length p0a (ints y0lc) → Calls Try.prog 46 #[(vImage y0a y0b (.slice A0a y0lc.length p0a)), (.agg #[.int .i64 y1a, .int .i64 y1b, .int .i64 y1c, .int .i64 y1d])] wx (MadeImage (fun s0 => .tuple #[(vImage r0a r0b s0), (.bool r1)]) r0lc.length (ints r0lc) wx))) (HI : Hid (∀ (A0a : Option Addr) (p0a : Nat), ∀ (wx : World), RS wx 1 A0a y0lc.length p0a (ints y0lc) → Calls Try.prog 48 #[(vImage y0a y0b (.slice A0a y0lc.length p0a)), (.agg #[.int .i64 y1a, .int .i64 y1b, .int .i64 y1c, .int .i64 y1d])] wx (MadeImage (fun s0 => .tuple #[(vImage r0a r0b s0), (.bool r1)]) r0lc.length (ints r0lc) wx))) :
    Calls Try.prog 10 #[(vImage y0a y0b (.slice A0a y0lc.length p0a)), (.agg #[.int .i64 y1a, .int .i64 y1b, .int .i64 y1c, .int .i64 y1d])] w fun e w' => e = .returned (.bool true) ∧ Below w.heap.size w w' := by
  have mh0a := h0a.len
  unfold maxLen at *
  go_enter Try.func10, Try.ntmps10
  go_upto_region 1 with fail
  go_cut [5] (fun sl wx => sl = .int .i64 1048576 ∧ Box wx (w.heap.size) [.int .i64 y0a, .int .i64 y0b, (.slice A0a y0lc.length p0a)] ∧ Box wx (w.heap.size + 1) [.int .i64 y1a, .int .i64 y1b, .int .i64 y1c, .int .i64 y1d] ∧ RS wx 1 A0a y0lc.length p0a (ints y0lc) ∧ Below w.heap.size w wx)
  case first =>
    go_wp2_with fail
    go_meet
    exact ⟨rfl, Box.of_own (t := 40) (by repeat (first | (exact Own.at_lit (by simp)) | (with_reducible refine Own.alloc ?_ _))), Box.of_own (t := 69) (by repeat (first | (exact Own.at_lit (by simp)) | (with_reducible refine Own.alloc ?_ _))), (RS.step (by repeat (first | (with_reducible exact Below.refl _ _) | (with_reducible assumption) | ((with_reducible refine Below.alloc ?_ ?_ _); rotate_left; (first | omega | (simp <;> omega))) | ((with_reducible refine Below.setCell ?_ ?_ _); rotate_left; (first | omega | (simp <;> omega))) | (with_reducible refine below_drewN ?_ _) | (with_reducible refine Below.drew ?_) | ((with_reducible refine Below.step (by assumption) ?_ ?_); rotate_left; (first | omega | (simp <;> omega))))) h0a), (by repeat (first | (with_reducible exact Below.refl _ _) | (with_reducible assumption) | ((with_reducible refine Below.alloc ?_ ?_ _); rotate_left; (first | omega | (simp <;> omega))) | ((with_reducible refine Below.setCell ?_ ?_ _); rotate_left; (first | omega | (simp <;> omega))) | (with_reducible refine below_drewN ?_ _) | (with_reducible refine Below.drew ?_) | ((with_reducible refine Below.step (by assumption) ?_ ?_); rotate_left; (first | omega | (simp <;> omega)))))⟩
  case rest =>
    obtain ⟨u1, rfl⟩ : ∃ u1, u1 = wc := ⟨_, rfl⟩
    obtain ⟨rfl, ba0, ba1, qh0a, hB⟩ := hcut
    go_upto_region 2 with fail
    go_cut [5] (fun sl wx => (sl = .int .i64 (-1) ∨ ∃ z : Int, sl = .int .i64 z ∧ 0 ≤ z ∧ z ≤ 1048576 ∧ (y0lc.length : Int) ≤ 1048576) ∧ Below u1.heap.size u1 wx)
    case first =>
      obtain ⟨zb1a, cb1a0, cb1a1, cb1a2⟩ := ba0.open3
      go_wp2_with fail
      refine (L_szImage _ (by first | omega | assumption) (by first | omega | assumption) (by unfold maxLen; first | omega | assumption)).mono ?_
      rintro e v1a ⟨rfl, hbv1a⟩
      have hzv1a := hbv1a.size; (try simp at hzv1a)
      have cv1aa := fun o => hbv1a.cell (p := ⟨w.heap.size, o, none⟩) (by first | omega | (simp <;> omega))
      have zv1aa : w.heap.size < v1a.heap.size := (by first | omega | (simp <;> omega))
      have ev1aa : ¬ w.heap.size = v1a.heap.size := (by omega)
      have gv1aa : ¬ v1a.heap.size = w.heap.size := (by omega)
      go_wp2_with fail
      go_meet
      rcases szF_or (1048576) y0lc.length with hq | ⟨hq0, hq1, hq2⟩
      · exact ⟨.inl (by rw [hq]), (by repeat (first | (with_reducible exact Below.refl _ _) | (with_reducible assumption) | ((with_reducible refine Below.alloc ?_ ?_ _); rotate_left; (first | omega | (simp <;> omega))) | ((with_reducible refine Below.setCell ?_ ?_ _); rotate_left; (first | omega | (simp <;> omega))) | (with_reducible refine below_drewN ?_ _) | (with_reducible refine Below.drew ?_) | ((with_reducible refine Below.step (by assumption) ?_ ?_); rotate_left; (first | omega | (simp <;> omega)))))⟩
      · exact ⟨.inr ⟨_, rfl, hq0, hq1, hq2⟩, (by repeat (first | (with_reducible exact Below.refl _ _) | (with_reducible assumption) | ((with_reducible refine Below.alloc ?_ ?_ _); rotate_left; (first | omega | (simp <;> omega))) | ((with_reducible refine Below.setCell ?_ ?_ _); rotate_left; (first | omega | (simp <;> omega))) | (with_reducible refine below_drewN ?_ _) | (with_reducible refine Below.drew ?_) | ((with_reducible refine Below.step (by assumption) ?_ ?_); rotate_left; (first | omega | (simp <;> omega)))))⟩
    case rest =>
      obtain ⟨u2, rfl⟩ : ∃ u2, u2 = wc := ⟨_, rfl⟩
      obtain ⟨hsl, hb⟩ := hcut
      replace hB := Below.step hb hB hB.size
      replace ba0 := Box.step hb ba0
      replace ba1 := Box.step hb ba1
      replace qh0a := RS.step hb qh0a
      clear hb
      rcases hsl with rfl | ⟨z1, rfl, hz10, hz11, hz12⟩
      · go_wp2
        go_ret
        exact ⟨rfl, hB⟩
      have by0lc : y0lc.length ≤ 1048576 := by omega
      have t1 : ¬ z1 < 0 := by omega
      go_upto_region 5 with fail
      go_cut [6, 7] (fun s6 s7 wx => ∃ A26a c26a B26, s6 = .pointer (some ⟨B26, 0, none⟩) ∧ Box wx B26 [.int .i64 r0a, .int .i64 r0b, (.slice A26a r0lc.length c26a)] ∧ u2.heap.size ≤ B26 ∧ OwnS wx 1 A26a r0lc.length c26a 3 (ints r0lc) ∧ (∀ x, x ∈ gOf A26a → u2.heap.size ≤ x) ∧ (∀ x, x ∈ gOf A26a → x ≠ B26) ∧ s7 = (.bool r1) ∧ Below u2.heap.size u2 wx)
      case first =>
        obtain ⟨zb2a, cb2a0, cb2a1, cb2a2⟩ := ba0.open3
        obtain ⟨zb2b, cb2b0, cb2b1, cb2b2, cb2b3⟩ := ba1.open4
        go_region_held3 (fun w' => w'.cell? ⟨w.heap.size, 0, none⟩ = some (.int .i64 y0a) ∧ w'.cell? ⟨w.heap.size, 1, none⟩ = some (.int .i64 y0b) ∧ w'.cell? ⟨w.heap.size, 2, none⟩ = some ((.slice A0a y0lc.length p0a)) ∧ w'.cell? ⟨w.heap.size + 1, 0, none⟩ = some (.int .i64 y1a) ∧ w'.cell? ⟨w.heap.size + 1, 1, none⟩ = some (.int .i64 y1b) ∧ w'.cell? ⟨w.heap.size + 1, 2, none⟩ = some (.int .i64 y1c) ∧ w'.cell? ⟨w.heap.size + 1, 3, none⟩ = some (.int .i64 y1d))
          (first | ((try dsimp only); refine ⟨?_, ?_, ?_, ?_, ?_, ?_, ?_⟩ <;> (go_simp; done)) | go_keep)
          (first | (go_at_call 27; (with_reducible refine (L_toImageM (x0 := y0a) (x1 := y0b) (l0 := y0lc) _ by0lc (RS.step (by repeat (first | (with_reducible exact Below.refl _ _) | (with_reducible assumption) | ((with_reducible refine Below.alloc ?_ ?_ _); rotate_left; (first | omega | (simp <;> omega))) | ((with_reducible refine Below.setCell ?_ ?_ _); rotate_left; (first | omega | (simp <;> omega))) | (with_reducible refine below_drewN ?_ _) | (with_reducible refine Below.drew ?_) | ((with_reducible refine Below.step (by assumption) ?_ ?_); rotate_left; (first | omega | (simp <;> omega))))) qh0a)).mono ?_); rintro e v2a ⟨Tv2aa, kv2aa, rfl, ov2aa, gev2aa, hbv2a⟩; have hzv2a := hbv2a.size; (try simp at hzv2a); have cv2aa := fun o => hbv2a.cell (p := ⟨w.heap.size, o, none⟩) (by first | omega | (simp <;> omega)); have zv2aa : w.heap.size < v2a.heap.size := (by first | omega | (simp <;> omega)); have ev2aa : ¬ w.heap.size = v2a.heap.size := (by omega); have gv2aa : ¬ v2a.heap.size = w.heap.size := (by omega); have cv2ab := fun o => hbv2a.cell (p := ⟨w.heap.size + 1, o, none⟩) (by first | omega | (simp <;> omega)); have zv2ab : w.heap.size + 1 < v2a.heap.size := (by first | omega | (simp <;> omega)); have ev2ab : ¬ w.heap.size + 1 = v2a.heap.size := (by omega); have gv2ab : ¬ v2a.heap.size = w.heap.size + 1 := (by omega); (try (refine with_box hbv2a (u2.heap.size) ?_ ?_; (first | omega | (simp <;> omega)); intro ncv2a0 nfv2a0 nzv2a0))) | (go_at_call 47; (with_reducible refine (L_toBucket (y1a) (y1b) (y1c) (y1d) _).mono ?_); rintro e v2b ⟨rfl, hbv2b⟩; have hzv2b := hbv2b.size; (try simp at hzv2b); have cv2ba := fun o => hbv2b.cell (p := ⟨w.heap.size, o, none⟩) (by first | omega | (simp <;> omega)); have zv2ba : w.heap.size < v2b.heap.size := (by first | omega | (simp <;> omega)); have ev2ba : ¬ w.heap.size = v2b.heap.size := (by omega); have gv2ba : ¬ v2b.heap.size = w.heap.size := (by omega); have cv2bb := fun o => hbv2b.cell (p := ⟨w.heap.size + 1, o, none⟩) (by first | omega | (simp <;> omega)); have zv2bb : w.heap.size + 1 < v2b.heap.size := (by first | omega | (simp <;> omega)); have ev2bb : ¬ w.heap.size + 1 = v2b.heap.size := (by omega); have gv2bb : ¬ v2b.heap.size = w.heap.size + 1 := (by omega); (try (refine with_box hbv2b (u2.heap.size) ?_ ?_; (first | omega | (simp <;> omega)); intro ncv2b0 nfv2b0 nzv2b0)); (try (refine with_box hbv2b (v2a.heap.size) ?_ ?_; (first | omega | (simp <;> omega)); intro ncv2b1 nfv2b1 nzv2b1))) | (go_at_call 46; (with_reducible refine (HS.out _ _ _ (RS.step (by repeat (first | (with_reducible exact Below.refl _ _) | (with_reducible assumption) | ((with_reducible refine Below.alloc ?_ ?_ _); rotate_left; (first | omega | (simp <;> omega))) | ((with_reducible refine Below.setCell ?_ ?_ _); rotate_left; (first | omega | (simp <;> omega))) | (with_reducible refine below_drewN ?_ _) | (with_reducible refine Below.drew ?_) | ((with_reducible refine Below.step (by assumption) ?_ ?_); rotate_left; (first | omega | (simp <;> omega))))) (OwnS.rs ov2aa))).mono ?_); rintro e v2c ⟨Tv2ca, kv2ca, rfl, ov2ca, gev2ca, hbv2c⟩; have hzv2c := hbv2c.size; (try simp at hzv2c); have cv2ca := fun o => hbv2c.cell (p := ⟨w.heap.size, o, none⟩) (by first | omega | (simp <;> omega)); have zv2ca : w.heap.size < v2c.heap.size := (by first | omega | (simp <;> omega)); have ev2ca : ¬ w.heap.size = v2c.heap.size := (by omega); have gv2ca : ¬ v2c.heap.size = w.heap.size := (by omega); have cv2cb := fun o => hbv2c.cell (p := ⟨w.heap.size + 1, o, none⟩) (by first | omega | (simp <;> omega)); have zv2cb : w.heap.size + 1 < v2c.heap.size := (by first | omega | (simp <;> omega)); have ev2cb : ¬ w.heap.size + 1 = v2c.heap.size := (by omega); have gv2cb : ¬ v2c.heap.size = w.heap.size + 1 := (by omega); (try (refine with_box hbv2c (u2.heap.size) ?_ ?_; (first | omega | (simp <;> omega)); intro ncv2c0 nfv2c0 nzv2c0)); (try (refine with_box hbv2c (v2a.heap.size) ?_ ?_; (first | omega | (simp <;> omega)); intro ncv2c1 nfv2c1 nzv2c1)); (try (refine with_box hbv2c (v2b.heap.size) ?_ ?_; (first | omega | (simp <;> omega)); intro ncv2c2 nfv2c2 nzv2c2))))
        all_goals
          go_wp2_with fail
          go_meet
          exact ⟨Tv2ca, kv2ca, _, rfl, Box.mk3 (by first | omega | (simp <;> omega)) (by go_simp) (by go_simp) (by go_simp), (by first | omega | (simp <;> omega)), (by repeat (first | (with_reducible exact ov2ca) | ((with_reducible refine OwnS.far ?_ (fun x hx => ?_) _); rotate_left; (have h1 := gev2ca x hx; have h2 := OwnS.lt ov2ca x hx; (try simp at h1); first | omega | (simp <;> omega))) | (with_reducible refine OwnS.alloc ?_ _) | (with_reducible refine OwnS.drewN ?_ _) | (with_reducible refine OwnS.drew ?_) | (with_reducible refine OwnS.step (by assumption) ?_))), (fun x hx => by have h1 := gev2ca x hx; (try simp at h1); first | omega | (simp <;> omega)), (fun x hx => by have h1 := gev2ca x hx; have h2 := OwnS.lt ov2ca x hx; (try simp at h1); first | omega | (simp <;> omega)), rfl, (by repeat (first | (with_reducible exact Below.refl _ _) | (with_reducible assumption) | ((with_reducible refine Below.alloc ?_ ?_ _); rotate_left; (first | omega | (simp <;> omega))) | ((with_reducible refine Below.setCell ?_ ?_ _); rotate_left; (first | omega | (simp <;> omega))) | (with_reducible refine below_drewN ?_ _) | (with_reducible refine Below.drew ?_) | ((with_reducible refine Below.step (by assumption) ?_ ?_); rotate_left; (first | omega | (simp <;> omega)))))⟩
      case rest =>
        obtain ⟨u3, rfl⟩ : ∃ u3, u3 = wc := ⟨_, rfl⟩
        obtain ⟨A26a, c26a, B26, rfl, bx26, bg26, o26a, ge26a, ne260, rfl, hb⟩ := hcut
        replace hB := Below.step hb hB hB.size
        replace ba0 := Box.step hb ba0
        replace ba1 := Box.step hb ba1
        replace qh0a := RS.step hb qh0a
        replace o26a := OwnS.rs o26a
        have hS := Below.refl u3.heap.size u3
        have hBS := hB.size
        go_upto_region 6 with fail
        go_cut [8] (fun s8 wx => ∃ A38a c38a B38, s8 = .pointer (some ⟨B38, 0, none⟩) ∧ Box wx B38 [.int .i64 y0a, .int .i64 y0b, (.slice A38a y0lc.length c38a)] ∧ u3.heap.size ≤ B38 ∧ OwnS wx 1 A38a y0lc.length c38a 3 (ints y0lc) ∧ (∀ x, x ∈ gOf A38a → u3.heap.size ≤ x) ∧ (∀ x, x ∈ gOf A38a → x ≠ B38) ∧ Below u3.heap.size u3 wx)
        case first =>
          obtain ⟨zb3a, cb3a0, cb3a1, cb3a2⟩ := (Box.step hS ba0).open3
          go_wp2_with fail
          refine (L_toImageM (x0 := y0a) (x1 := y0b) (l0 := y0lc) _ by0lc (RS.step (by repeat (first | (with_reducible exact Below.refl _ _) | (with_reducible assumption) | ((with_reducible refine Below.alloc ?_ ?_ _); rotate_left; (first | omega | (simp <;> omega))) | ((with_reducible refine Below.setCell ?_ ?_ _); rotate_left; (first | omega | (simp <;> omega))) | (with_reducible refine below_drewN ?_ _) | (with_reducible refine Below.drew ?_) | ((with_reducible refine Below.step (by assumption) ?_ ?_); rotate_left; (first | omega | (simp <;> omega))))) (RS.step hS qh0a))).mono ?_
          rintro e v3a ⟨Tv3aa, kv3aa, rfl, ov3aa, gev3aa, hbv3a⟩
          have hzv3a := hbv3a.size; (try simp at hzv3a)
          have cv3aa := fun o => hbv3a.cell (p := ⟨w.heap.size, o, none⟩) (by first | omega | (simp <;> omega))
          have zv3aa : w.heap.size < v3a.heap.size := (by first | omega | (simp <;> omega))
          have ev3aa : ¬ w.heap.size = v3a.heap.size := (by omega)
          have gv3aa : ¬ v3a.heap.size = w.heap.size := (by omega)
          go_wp2_with fail
          go_meet
          exact ⟨Tv3aa, kv3aa, _, rfl, Box.mk3 (by first | omega | (simp <;> omega)) (by go_simp) (by go_simp) (by go_simp), (by first | omega | (simp <;> omega)), (by repeat (first | (with_reducible exact ov3aa) | ((with_reducible refine OwnS.far ?_ (fun x hx => ?_) _); rotate_left; (have h1 := gev3aa x hx; have h2 := OwnS.lt ov3aa x hx; (try simp at h1); first | omega | (simp <;> omega))) | (with_reducible refine OwnS.alloc ?_ _) | (with_reducible refine OwnS.drewN ?_ _) | (with_reducible refine OwnS.drew ?_) | (with_reducible refine OwnS.step (by assumption) ?_))), (fun x hx => by have h1 := gev3aa x hx; (try simp at h1); first | omega | (simp <;> omega)), (fun x hx => by have h1 := gev3aa x hx; have h2 := OwnS.lt ov3aa x hx; (try simp at h1); first | omega | (simp <;> omega)), (by repeat (first | (with_reducible exact Below.refl _ _) | (with_reducible assumption) | ((with_reducible refine Below.alloc ?_ ?_ _); rotate_left; (first | omega | (simp <;> omega))) | ((with_reducible refine Below.setCell ?_ ?_ _); rotate_left; (first | omega | (simp <;> omega))) | (with_reducible refine below_drewN ?_ _) | (with_reducible refine Below.drew ?_) | ((with_reducible refine Below.step (by assumption) ?_ ?_); rotate_left; (first | omega | (simp <;> omega)))))⟩
        case rest =>
          obtain ⟨u4, rfl⟩ : ∃ u4, u4 = wc := ⟨_, rfl⟩
          obtain ⟨A38a, c38a, B38, rfl, bx38, bg38, o38a, ge38a, ne380, hb⟩ := hcut
          replace hB := Below.step hb hB hB.size
          have hSs := hS.size
          replace hS := Below.step hb hS hS.size
          clear hb
          go_upto_region 7 with fail
          go_cut [9, 10] (fun s9 s10 wx => ∃ A49a c49a B49, s9 = .pointer (some ⟨B49, 0, none⟩) ∧ Box wx B49 [.int .i64 r0a, .int .i64 r0b, (.slice A49a r0lc.length c49a)] ∧ u4.heap.size ≤ B49 ∧ OwnS wx 1 A49a r0lc.length c49a 3 (ints r0lc) ∧ (∀ x, x ∈ gOf A49a → u4.heap.size ≤ x) ∧ (∀ x, x ∈ gOf A49a → x ≠ B49) ∧ s10 = (.bool r1) ∧ Below u4.heap.size u4 wx)
          case first =>
            obtain ⟨zb4a, cb4a0, cb4a1, cb4a2⟩ := bx38.open3
            obtain ⟨zb4b, cb4b0, cb4b1, cb4b2, cb4b3⟩ := (Box.step hS ba1).open4
            go_region_held3 (fun w' => w'.cell? ⟨B38, 0, none⟩ = some (.int .i64 y0a) ∧ w'.cell? ⟨B38, 1, none⟩ = some (.int .i64 y0b) ∧ w'.cell? ⟨B38, 2, none⟩ = some ((.slice A38a y0lc.length c38a)) ∧ w'.cell? ⟨w.heap.size + 1, 0, none⟩ = some (.int .i64 y1a) ∧ w'.cell? ⟨w.heap.size + 1, 1, none⟩ = some (.int .i64 y1b) ∧ w'.cell? ⟨w.heap.size + 1, 2, none⟩ = some (.int .i64 y1c) ∧ w'.cell? ⟨w.heap.size + 1, 3, none⟩ = some (.int .i64 y1d))
              (first | ((try dsimp only); refine ⟨?_, ?_, ?_, ?_, ?_, ?_, ?_⟩ <;> (go_simp; done)) | go_keep)
              (first | (go_at_call 47; (with_reducible refine (L_toBucket (y1a) (y1b) (y1c) (y1d) _).mono ?_); rintro e v4a ⟨rfl, hbv4a⟩; have hzv4a := hbv4a.size; (try simp at hzv4a); have cv4aa := fun o => hbv4a.cell (p := ⟨B38, o, none⟩) (by first | omega | (simp <;> omega)); have zv4aa : B38 < v4a.heap.size := (by first | omega | (simp <;> omega)); have ev4aa : ¬ B38 = v4a.heap.size := (by omega); have gv4aa : ¬ v4a.heap.size = B38 := (by omega); have cv4ab := fun o => hbv4a.cell (p := ⟨w.heap.size + 1, o, none⟩) (by first | omega | (simp <;> omega)); have zv4ab : w.heap.size + 1 < v4a.heap.size := (by first | omega | (simp <;> omega)); have ev4ab : ¬ w.heap.size + 1 = v4a.heap.size := (by omega); have gv4ab : ¬ v4a.heap.size = w.heap.size + 1 := (by omega); (try (refine with_box hbv4a (u4.heap.size) ?_ ?_; (first | omega | (simp <;> omega)); intro ncv4a0 nfv4a0 nzv4a0))) | (go_at_call 48; (with_reducible refine (HI.out _ _ _ (RS.step (by repeat (first | (with_reducible exact Below.refl _ _) | (with_reducible assumption) | ((with_reducible refine Below.alloc ?_ ?_ _); rotate_left; (first | omega | (simp <;> omega))) | ((with_reducible refine Below.setCell ?_ ?_ _); rotate_left; (first | omega | (simp <;> omega))) | (with_reducible refine below_drewN ?_ _) | (with_reducible refine Below.drew ?_) | ((with_reducible refine Below.step (by assumption) ?_ ?_); rotate_left; (first | omega | (simp <;> omega))))) (OwnS.rs o38a))).mono ?_); rintro e v4b ⟨Tv4ba, kv4ba, rfl, ov4ba, gev4ba, hbv4b⟩; have hzv4b := hbv4b.size; (try simp at hzv4b); have cv4ba := fun o => hbv4b.cell (p := ⟨B38, o, none⟩) (by first | omega | (simp <;> omega)); have zv4ba : B38 < v4b.heap.size := (by first | omega | (simp <;> omega)); have ev4ba : ¬ B38 = v4b.heap.size := (by omega); have gv4ba : ¬ v4b.heap.size = B38 := (by omega); have cv4bb := fun o => hbv4b.cell (p := ⟨w.heap.size + 1, o, none⟩) (by first | omega | (simp <;> omega)); have zv4bb : w.heap.size + 1 < v4b.heap.size := (by first | omega | (simp <;> omega)); have ev4bb : ¬ w.heap.size + 1 = v4b.heap.size := (by omega); have gv4bb : ¬ v4b.heap.size = w.heap.size + 1 := (by omega); (try (refine with_box hbv4b (u4.heap.size) ?_ ?_; (first | omega | (simp <;> omega)); intro ncv4b0 nfv4b0 nzv4b0)); (try (refine with_box hbv4b (v4a.heap.size) ?_ ?_; (first | omega | (simp <;> omega)); intro ncv4b1 nfv4b1 nzv4b1))))
            all_goals
              go_wp2_with fail
              go_meet
              exact ⟨Tv4ba, kv4ba, _, rfl, Box.mk3 (by first | omega | (simp <;> omega)) (by go_simp) (by go_simp) (by go_simp), (by first | omega | (simp <;> omega)), (by repeat (first | (with_reducible exact ov4ba) | ((with_reducible refine OwnS.far ?_ (fun x hx => ?_) _); rotate_left; (have h1 := gev4ba x hx; have h2 := OwnS.lt ov4ba x hx; (try simp at h1); first | omega | (simp <;> omega))) | (with_reducible refine OwnS.alloc ?_ _) | (with_reducible refine OwnS.drewN ?_ _) | (with_reducible refine OwnS.drew ?_) | (with_reducible refine OwnS.step (by assumption) ?_))), (fun x hx => by have h1 := gev4ba x hx; (try simp at h1); first | omega | (simp <;> omega)), (fun x hx => by have h1 := gev4ba x hx; have h2 := OwnS.lt ov4ba x hx; (try simp at h1); first | omega | (simp <;> omega)), rfl, (by repeat (first | (with_reducible exact Below.refl _ _) | (with_reducible assumption) | ((with_reducible refine Below.alloc ?_ ?_ _); rotate_left; (first | omega | (simp <;> omega))) | ((with_reducible refine Below.setCell ?_ ?_ _); rotate_left; (first | omega | (simp <;> omega))) | (with_reducible refine below_drewN ?_ _) | (with_reducible refine Below.drew ?_) | ((with_reducible refine Below.step (by assumption) ?_ ?_); rotate_left; (first | omega | (simp <;> omega)))))⟩
          case rest =>
            obtain ⟨u5, rfl⟩ : ∃ u5, u5 = wc := ⟨_, rfl⟩
            obtain ⟨A49a, c49a, B49, rfl, bx49, bg49, o49a, ge49a, ne490, rfl, hb⟩ := hcut
            have lto38a4 := OwnS.lt o38a
            have lbbx384 := bx38.lt
            replace hB := Below.step hb hB hB.size
            have hSs := hS.size
            replace hS := Below.step hb hS hS.size
            replace bx38 := Box.step hb bx38
            replace o38a := OwnS.step hb o38a
            clear hb
            go_upto_region 8 with fail
            go_cut [46] (fun sd wx => sd = .bool false ∧ Below u5.heap.size u5 wx)
            case first =>
              obtain ⟨zb5a, cb5a0, cb5a1, cb5a2⟩ := bx49.open3
              obtain ⟨zb5b, cb5b0, cb5b1, cb5b2⟩ := (Box.step hS bx26).open3
              go_wp2_with fail
              refine (L_eqImage _ (RS.step (by repeat (first | (with_reducible exact Below.refl _ _) | (with_reducible assumption) | ((with_reducible refine Below.alloc ?_ ?_ _); rotate_left; (first | omega | (simp <;> omega))) | ((with_reducible refine Below.setCell ?_ ?_ _); rotate_left; (first | omega | (simp <;> omega))) | (with_reducible refine below_drewN ?_ _) | (with_reducible refine Below.drew ?_) | ((with_reducible refine Below.step (by assumption) ?_ ?_); rotate_left; (first | omega | (simp <;> omega))))) (OwnS.rs o49a)) (RS.step (by repeat (first | (with_reducible exact Below.refl _ _) | (with_reducible assumption) | ((with_reducible refine Below.alloc ?_ ?_ _); rotate_left; (first | omega | (simp <;> omega))) | ((with_reducible refine Below.setCell ?_ ?_ _); rotate_left; (first | omega | (simp <;> omega))) | (with_reducible refine below_drewN ?_ _) | (with_reducible refine Below.drew ?_) | ((with_reducible refine Below.step (by assumption) ?_ ?_); rotate_left; (first | omega | (simp <;> omega))))) (RS.step hS o26a))).mono ?_
              rintro e v5a ⟨rfl, hbv5a⟩
              have hzv5a := hbv5a.size; (try simp at hzv5a)
              have cv5aa := fun o => hbv5a.cell (p := ⟨B49, o, none⟩) (by first | omega | (simp <;> omega))
              have zv5aa : B49 < v5a.heap.size := (by first | omega | (simp <;> omega))
              have ev5aa : ¬ B49 = v5a.heap.size := (by omega)
              have gv5aa : ¬ v5a.heap.size = B49 := (by omega)
              have cv5ab := fun o => hbv5a.cell (p := ⟨B26, o, none⟩) (by first | omega | (simp <;> omega))
              have zv5ab : B26 < v5a.heap.size := (by first | omega | (simp <;> omega))
              have ev5ab : ¬ B26 = v5a.heap.size := (by omega)
              have gv5ab : ¬ v5a.heap.size = B26 := (by omega)
              go_wp2_with fail
              go_meet
              exact ⟨rfl, (by repeat (first | (with_reducible exact Below.refl _ _) | (with_reducible assumption) | ((with_reducible refine Below.alloc ?_ ?_ _); rotate_left; (first | omega | (simp <;> omega))) | ((with_reducible refine Below.setCell ?_ ?_ _); rotate_left; (first | omega | (simp <;> omega))) | (with_reducible refine below_drewN ?_ _) | (with_reducible refine Below.drew ?_) | ((with_reducible refine Below.step (by assumption) ?_ ?_); rotate_left; (first | omega | (simp <;> omega)))))⟩
            case rest =>
              obtain ⟨u6, rfl⟩ : ∃ u6, u6 = wc := ⟨_, rfl⟩
              obtain ⟨rfl, hb⟩ := hcut
              replace hB := Below.step hb hB hB.size
              replace hS := Below.step hb hS hS.size
              replace bx38 := Box.step hb bx38
              replace o38a := OwnS.step hb o38a
              replace bx49 := Box.step hb bx49
              replace o49a := OwnS.step hb o49a
              clear hb
              go_upto_region 10 with fail
              go_cut [51] (fun sd wx => sd = .bool false ∧ Below u6.heap.size u6 wx)
              case first =>
                obtain ⟨zb6a, cb6a0, cb6a1, cb6a2⟩ := bx38.open3
                obtain ⟨zb6b, cb6b0, cb6b1, cb6b2⟩ := (Box.step hS ba0).open3
                go_region_held3 (fun w' => w'.cell? ⟨B38, 0, none⟩ = some (.int .i64 y0a) ∧ w'.cell? ⟨B38, 1, none⟩ = some (.int .i64 y0b) ∧ w'.cell? ⟨B38, 2, none⟩ = some ((.slice A38a y0lc.length c38a)) ∧ w'.cell? ⟨w.heap.size, 0, none⟩ = some (.int .i64 y0a) ∧ w'.cell? ⟨w.heap.size, 1, none⟩ = some (.int .i64 y0b) ∧ w'.cell? ⟨w.heap.size, 2, none⟩ = some ((.slice A0a y0lc.length p0a)))
                  (first | ((try dsimp only); refine ⟨?_, ?_, ?_, ?_, ?_, ?_⟩ <;> (go_simp; done)) | go_keep)
                  (first | (go_at_call 27; (with_reducible refine (L_toImageM (x0 := y0a) (x1 := y0b) (l0 := y0lc) _ by0lc (RS.step (by repeat (first | (with_reducible exact Below.refl _ _) | (with_reducible assumption) | ((with_reducible refine Below.alloc ?_ ?_ _); rotate_left; (first | omega | (simp <;> omega))) | ((with_reducible refine Below.setCell ?_ ?_ _); rotate_left; (first | omega | (simp <;> omega))) | (with_reducible refine below_drewN ?_ _) | (with_reducible refine Below.drew ?_) | ((with_reducible refine Below.step (by assumption) ?_ ?_); rotate_left; (first | omega | (simp <;> omega))))) (RS.step hS qh0a))).mono ?_); rintro e v6a ⟨Tv6aa, kv6aa, rfl, ov6aa, gev6aa, hbv6a⟩; have hzv6a := hbv6a.size; (try simp at hzv6a); have cv6aa := fun o => hbv6a.cell (p := ⟨B38, o, none⟩) (by first | omega | (simp <;> omega)); have zv6aa : B38 < v6a.heap.size := (by first | omega | (simp <;> omega)); have ev6aa : ¬ B38 = v6a.heap.size := (by omega); have gv6aa : ¬ v6a.heap.size = B38 := (by omega); have cv6ab := fun o => hbv6a.cell (p := ⟨w.heap.size, o, none⟩) (by first | omega | (simp <;> omega)); have zv6ab : w.heap.size < v6a.heap.size := (by first | omega | (simp <;> omega)); have ev6ab : ¬ w.heap.size = v6a.heap.size := (by omega); have gv6ab : ¬ v6a.heap.size = w.heap.size := (by omega)) | (go_at_call 29; (with_reducible refine (L_eqImage _ (RS.step (by repeat (first | (with_reducible exact Below.refl _ _) | (with_reducible assumption) | ((with_reducible refine Below.alloc ?_ ?_ _); rotate_left; (first | omega | (simp <;> omega))) | ((with_reducible refine Below.setCell ?_ ?_ _); rotate_left; (first | omega | (simp <;> omega))) | (with_reducible refine below_drewN ?_ _) | (with_reducible refine Below.drew ?_) | ((with_reducible refine Below.step (by assumption) ?_ ?_); rotate_left; (first | omega | (simp <;> omega))))) (OwnS.rs o38a)) (RS.step (by repeat (first | (with_reducible exact Below.refl _ _) | (with_reducible assumption) | ((with_reducible refine Below.alloc ?_ ?_ _); rotate_left; (first | omega | (simp <;> omega))) | ((with_reducible refine Below.setCell ?_ ?_ _); rotate_left; (first | omega | (simp <;> omega))) | (with_reducible refine below_drewN ?_ _) | (with_reducible refine Below.drew ?_) | ((with_reducible refine Below.step (by assumption) ?_ ?_); rotate_left; (first | omega | (simp <;> omega))))) (OwnS.rs ov6aa))).mono ?_); rintro e v6b ⟨rfl, hbv6b⟩; have hzv6b := hbv6b.size; (try simp at hzv6b); have cv6ba := fun o => hbv6b.cell (p := ⟨B38, o, none⟩) (by first | omega | (simp <;> omega)); have zv6ba : B38 < v6b.heap.size := (by first | omega | (simp <;> omega)); have ev6ba : ¬ B38 = v6b.heap.size := (by omega); have gv6ba : ¬ v6b.heap.size = B38 := (by omega); have cv6bb := fun o => hbv6b.cell (p := ⟨w.heap.size, o, none⟩) (by first | omega | (simp <;> omega)); have zv6bb : w.heap.size < v6b.heap.size := (by first | omega | (simp <;> omega)); have ev6bb : ¬ w.heap.size = v6b.heap.size := (by omega); have gv6bb : ¬ v6b.heap.size = w.heap.size := (by omega)))
                all_goals
                  go_wp2_with fail
                  go_meet
                  exact ⟨rfl, (by repeat (first | (with_reducible exact Below.refl _ _) | (with_reducible assumption) | ((with_reducible refine Below.alloc ?_ ?_ _); rotate_left; (first | omega | (simp <;> omega))) | ((with_reducible refine Below.setCell ?_ ?_ _); rotate_left; (first | omega | (simp <;> omega))) | (with_reducible refine below_drewN ?_ _) | (with_reducible refine Below.drew ?_) | ((with_reducible refine Below.step (by assumption) ?_ ?_); rotate_left; (first | omega | (simp <;> omega)))))⟩
              case rest =>
                obtain ⟨u7, rfl⟩ : ∃ u7, u7 = wc := ⟨_, rfl⟩
                obtain ⟨rfl, hb⟩ := hcut
                replace hB := Below.step hb hB hB.size
                replace hS := Below.step hb hS hS.size
                replace bx38 := Box.step hb bx38
                replace o38a := OwnS.step hb o38a
                replace bx49 := Box.step hb bx49
                replace o49a := OwnS.step hb o49a
                clear hb
                go_upto_region 13 with fail
                go_cut [11] (fun sd wx => sd = .int .i64 ((1 : Int) + (y0lc.length : Int)) ∧ OwnS wx 1 A38a y0lc.length c38a 3 (ints (upFrom (1 : Int) y0lc.length)) ∧ Only u7.heap.size (gOf A38a) u7 wx)
                case first =>
                  obtain ⟨zb7a, cb7a0, cb7a1, cb7a2⟩ := bx38.open3
                  go_wp2_with fail
                  refine (L_markImageG _ o38a (by omega) (by omega) (by omega)).mono ?_
                  rintro e v7a ⟨rfl, ov7aa, hOv7a⟩
                  have hzv7a := hOv7a.size
                  go_wp2_with fail
                  go_meet
                  exact ⟨rfl, ov7aa, hOv7a⟩
                case rest =>
                  obtain ⟨u8, rfl⟩ : ∃ u8, u8 = wc := ⟨_, rfl⟩
                  obtain ⟨rfl, nw0, hO⟩ := hcut
                  have hG : ∀ y, y ∈ gOf A38a → u3.heap.size ≤ y := ge38a
                  replace hB := hB.trans (hO.below hB.size (fun y hy => by have := hG y hy; omega))
                  replace hS := hS.trans (hO.below hS.size (fun y hy => by have := hG y hy; omega))
                  replace bx38 := Box.only hO bx38 bx38.lt (fun hy => ne380 _ hy rfl)
                  have hL : ∀ y, y ∈ gOf A38a → y < u4.heap.size := lto38a4
                  replace bx49 := Box.only hO bx49 bx49.lt (fun hy => by have := hL _ hy; omega)
                  replace o49a := OwnS.only o49a hO (fun y hy => ⟨OwnS.lt o49a y hy, fun hx => by have h1 := hL y hx; have h2 := ge49a y hy; omega⟩)
                  clear o38a
                  have o38a := nw0
                  clear nw0
                  clear hO hG
                  have t7 : ¬ (1 : Int) + (y0lc.length : Int) < 0 := by omega
                  go_upto_region 14 with fail
                  go_cut [67] (fun sd wx => sd = .bool false ∧ Below u8.heap.size u8 wx)
                  case first =>
                    obtain ⟨zb8a, cb8a0, cb8a1, cb8a2⟩ := bx49.open3
                    obtain ⟨zb8b, cb8b0, cb8b1, cb8b2⟩ := (Box.step hS bx26).open3
                    go_wp2_with fail
                    refine (L_eqImage _ (RS.step (by repeat (first | (with_reducible exact Below.refl _ _) | (with_reducible assumption) | ((with_reducible refine Below.alloc ?_ ?_ _); rotate_left; (first | omega | (simp <;> omega))) | ((with_reducible refine Below.setCell ?_ ?_ _); rotate_left; (first | omega | (simp <;> omega))) | (with_reducible refine below_drewN ?_ _) | (with_reducible refine Below.drew ?_) | ((with_reducible refine Below.step (by assumption) ?_ ?_); rotate_left; (first | omega | (simp <;> omega))))) (OwnS.rs o49a)) (RS.step (by repeat (first | (with_reducible exact Below.refl _ _) | (with_reducible assumption) | ((with_reducible refine Below.alloc ?_ ?_ _); rotate_left; (first | omega | (simp <;> omega))) | ((with_reducible refine Below.setCell ?_ ?_ _); rotate_left; (first | omega | (simp <;> omega))) | (with_reducible refine below_drewN ?_ _) | (with_reducible refine Below.drew ?_) | ((with_reducible refine Below.step (by assumption) ?_ ?_); rotate_left; (first | omega | (simp <;> omega))))) (RS.step hS o26a))).mono ?_
                    rintro e v8a ⟨rfl, hbv8a⟩
                    have hzv8a := hbv8a.size; (try simp at hzv8a)
                    have cv8aa := fun o => hbv8a.cell (p := ⟨B49, o, none⟩) (by first | omega | (simp <;> omega))
                    have zv8aa : B49 < v8a.heap.size := (by first | omega | (simp <;> omega))
                    have ev8aa : ¬ B49 = v8a.heap.size := (by omega)
                    have gv8aa : ¬ v8a.heap.size = B49 := (by omega)
                    have cv8ab := fun o => hbv8a.cell (p := ⟨B26, o, none⟩) (by first | omega | (simp <;> omega))
                    have zv8ab : B26 < v8a.heap.size := (by first | omega | (simp <;> omega))
                    have ev8ab : ¬ B26 = v8a.heap.size := (by omega)
                    have gv8ab : ¬ v8a.heap.size = B26 := (by omega)
                    go_wp2_with fail
                    go_meet
                    exact ⟨rfl, (by repeat (first | (with_reducible exact Below.refl _ _) | (with_reducible assumption) | ((with_reducible refine Below.alloc ?_ ?_ _); rotate_left; (first | omega | (simp <;> omega))) | ((with_reducible refine Below.setCell ?_ ?_ _); rotate_left; (first | omega | (simp <;> omega))) | (with_reducible refine below_drewN ?_ _) | (with_reducible refine Below.drew ?_) | ((with_reducible refine Below.step (by assumption) ?_ ?_); rotate_left; (first | omega | (simp <;> omega)))))⟩
                  case rest =>
                    obtain ⟨u9, rfl⟩ : ∃ u9, u9 = wc := ⟨_, rfl⟩
                    obtain ⟨rfl, hb⟩ := hcut
                    replace hB := Below.step hb hB hB.size
                    replace hS := Below.step hb hS hS.size
                    replace bx38 := Box.step hb bx38
                    replace o38a := OwnS.step hb o38a
                    replace bx49 := Box.step hb bx49
                    replace o49a := OwnS.step hb o49a
                    clear hb
                    go_upto_region 17 with fail
                    go_cut [12] (fun sd wx => sd = .int .i64 ((1 : Int) + (r0lc.length : Int)) ∧ OwnS wx 1 A49a r0lc.length c49a 3 (ints (upFrom (1 : Int) r0lc.length)) ∧ Only u9.heap.size (gOf A49a) u9 wx)
                    case first =>
                      obtain ⟨zb9a, cb9a0, cb9a1, cb9a2⟩ := bx49.open3
                      go_wp2_with fail
                      refine (L_markImageG _ o49a (by omega) (by omega) (by omega)).mono ?_
                      rintro e v9a ⟨rfl, ov9aa, hOv9a⟩
                      have hzv9a := hOv9a.size
                      go_wp2_with fail
                      go_meet
                      exact ⟨rfl, ov9aa, hOv9a⟩
                    case rest =>
                      obtain ⟨u10, rfl⟩ : ∃ u10, u10 = wc := ⟨_, rfl⟩
                      obtain ⟨rfl, nw0, hO⟩ := hcut
                      have hG : ∀ y, y ∈ gOf A49a → u4.heap.size ≤ y := ge49a
                      replace hB := hB.trans (hO.below hB.size (fun y hy => by have := hG y hy; omega))
                      replace hS := hS.trans (hO.below hS.size (fun y hy => by have := hG y hy; omega))
                      replace bx38 := Box.only hO bx38 bx38.lt (fun hy => by have h1 := hG _ hy; have h2 := lbbx384; omega)
                      replace o38a := OwnS.only o38a hO (fun y hy => ⟨OwnS.lt o38a y hy, fun hx => by have h1 := hG y hx; have h2 := lto38a4 y hy; omega⟩)
                      replace bx49 := Box.only hO bx49 bx49.lt (fun hy => ne490 _ hy rfl)
                      clear o49a
                      have o49a := nw0
                      clear nw0
                      clear hO hG
                      have t9 : ¬ (1 : Int) + (r0lc.length : Int) < 0 := by omega
                      go_upto_region 19 with fail
                      go_cut [13] (fun sd wx => sd = .int .i64 ((1 : Int) + (r0lc.length : Int)) ∧ Below u10.heap.size u10 wx)
                      case first =>
                        obtain ⟨zb10a, cb10a0, cb10a1, cb10a2⟩ := bx49.open3
                        go_wp2_with fail
                        refine (L_heldImageG _ o49a (by omega) (by omega) (by omega)).mono ?_
                        rintro e v10a ⟨rfl, hbv10a⟩
                        have hzv10a := hbv10a.size; (try simp at hzv10a)
                        have cv10aa := fun o => hbv10a.cell (p := ⟨B49, o, none⟩) (by first | omega | (simp <;> omega))
                        have zv10aa : B49 < v10a.heap.size := (by first | omega | (simp <;> omega))
                        have ev10aa : ¬ B49 = v10a.heap.size := (by omega)
                        have gv10aa : ¬ v10a.heap.size = B49 := (by omega)
                        go_wp2_with fail
                        go_meet
                        exact ⟨rfl, (by repeat (first | (with_reducible exact Below.refl _ _) | (with_reducible assumption) | ((with_reducible refine Below.alloc ?_ ?_ _); rotate_left; (first | omega | (simp <;> omega))) | ((with_reducible refine Below.setCell ?_ ?_ _); rotate_left; (first | omega | (simp <;> omega))) | (with_reducible refine below_drewN ?_ _) | (with_reducible refine Below.drew ?_) | ((with_reducible refine Below.step (by assumption) ?_ ?_); rotate_left; (first | omega | (simp <;> omega)))))⟩
                      case rest =>
                        obtain ⟨u11, rfl⟩ : ∃ u11, u11 = wc := ⟨_, rfl⟩
                        obtain ⟨rfl, hb⟩ := hcut
                        replace hB := Below.step hb hB hB.size
                        replace hS := Below.step hb hS hS.size
                        replace bx38 := Box.step hb bx38
                        replace o38a := OwnS.step hb o38a
                        replace bx49 := Box.step hb bx49
                        replace o49a := OwnS.step hb o49a
                        clear hb
                        have t10 : ¬ (1 : Int) + (r0lc.length : Int) < 0 := by omega
                        go_upto_region 24 with fail
                        go_cut [14, 15] (fun s14 s15 wx => ∃ A1114a c1114a B1114, s14 = .pointer (some ⟨B1114, 0, none⟩) ∧ Box wx B1114 [.int .i64 r0a, .int .i64 r0b, (.slice A1114a r0lc.length c1114a)] ∧ u11.heap.size ≤ B1114 ∧ OwnS wx 1 A1114a r0lc.length c1114a 3 (ints r0lc) ∧ (∀ x, x ∈ gOf A1114a → u11.heap.size ≤ x) ∧ (∀ x, x ∈ gOf A1114a → x ≠ B1114) ∧ s15 = (.bool r1) ∧ Below u11.heap.size u11 wx)
                        case first =>
                          obtain ⟨zb11a, cb11a0, cb11a1, cb11a2⟩ := (Box.step hS ba0).open3
                          obtain ⟨zb11b, cb11b0, cb11b1, cb11b2, cb11b3⟩ := (Box.step hS ba1).open4
                          go_region_held3 (fun w' => w'.cell? ⟨w.heap.size, 0, none⟩ = some (.int .i64 y0a) ∧ w'.cell? ⟨w.heap.size, 1, none⟩ = some (.int .i64 y0b) ∧ w'.cell? ⟨w.heap.size, 2, none⟩ = some ((.slice A0a y0lc.length p0a)) ∧ w'.cell? ⟨w.heap.size + 1, 0, none⟩ = some (.int .i64 y1a) ∧ w'.cell? ⟨w.heap.size + 1, 1, none⟩ = some (.int .i64 y1b) ∧ w'.cell? ⟨w.heap.size + 1, 2, none⟩ = some (.int .i64 y1c) ∧ w'.cell? ⟨w.heap.size + 1, 3, none⟩ = some (.int .i64 y1d))
                            (first | ((try dsimp only); refine ⟨?_, ?_, ?_, ?_, ?_, ?_, ?_⟩ <;> (go_simp; done)) | go_keep)
                            (first | (go_at_call 27; (with_reducible refine (L_toImageM (x0 := y0a) (x1 := y0b) (l0 := y0lc) _ by0lc (RS.step (by repeat (first | (with_reducible exact Below.refl _ _) | (with_reducible assumption) | ((with_reducible refine Below.alloc ?_ ?_ _); rotate_left; (first | omega | (simp <;> omega))) | ((with_reducible refine Below.setCell ?_ ?_ _); rotate_left; (first | omega | (simp <;> omega))) | (with_reducible refine below_drewN ?_ _) | (with_reducible refine Below.drew ?_) | ((with_reducible refine Below.step (by assumption) ?_ ?_); rotate_left; (first | omega | (simp <;> omega))))) (RS.step hS qh0a))).mono ?_); rintro e v11a ⟨Tv11aa, kv11aa, rfl, ov11aa, gev11aa, hbv11a⟩; have hzv11a := hbv11a.size; (try simp at hzv11a); have cv11aa := fun o => hbv11a.cell (p := ⟨w.heap.size, o, none⟩) (by first | omega | (simp <;> omega)); have zv11aa : w.heap.size < v11a.heap.size := (by first | omega | (simp <;> omega)); have ev11aa : ¬ w.heap.size = v11a.heap.size := (by omega); have gv11aa : ¬ v11a.heap.size = w.heap.size := (by omega); have cv11ab := fun o => hbv11a.cell (p := ⟨w.heap.size + 1, o, none⟩) (by first | omega | (simp <;> omega)); have zv11ab : w.heap.size + 1 < v11a.heap.size := (by first | omega | (simp <;> omega)); have ev11ab : ¬ w.heap.size + 1 = v11a.heap.size := (by omega); have gv11ab : ¬ v11a.heap.size = w.heap.size + 1 := (by omega); (try (refine with_box hbv11a (u11.heap.size) ?_ ?_; (first | omega | (simp <;> omega)); intro ncv11a0 nfv11a0 nzv11a0))) | (go_at_call 47; (with_reducible refine (L_toBucket (y1a) (y1b) (y1c) (y1d) _).mono ?_); rintro e v11b ⟨rfl, hbv11b⟩; have hzv11b := hbv11b.size; (try simp at hzv11b); have cv11ba := fun o => hbv11b.cell (p := ⟨w.heap.size, o, none⟩) (by first | omega | (simp <;> omega)); have zv11ba : w.heap.size < v11b.heap.size := (by first | omega | (simp <;> omega)); have ev11ba : ¬ w.heap.size = v11b.heap.size := (by omega); have gv11ba : ¬ v11b.heap.size = w.heap.size := (by omega); have cv11bb := fun o => hbv11b.cell (p := ⟨w.heap.size + 1, o, none⟩) (by first | omega | (simp <;> omega)); have zv11bb : w.heap.size + 1 < v11b.heap.size := (by first | omega | (simp <;> omega)); have ev11bb : ¬ w.heap.size + 1 = v11b.heap.size := (by omega); have gv11bb : ¬ v11b.heap.size = w.heap.size + 1 := (by omega); (try (refine with_box hbv11b (u11.heap.size) ?_ ?_; (first | omega | (simp <;> omega)); intro ncv11b0 nfv11b0 nzv11b0)); (try (refine with_box hbv11b (v11a.heap.size) ?_ ?_; (first | omega | (simp <;> omega)); intro ncv11b1 nfv11b1 nzv11b1))) | (go_at_call 48; (with_reducible refine (HI.out _ _ _ (RS.step (by repeat (first | (with_reducible exact Below.refl _ _) | (with_reducible assumption) | ((with_reducible refine Below.alloc ?_ ?_ _); rotate_left; (first | omega | (simp <;> omega))) | ((with_reducible refine Below.setCell ?_ ?_ _); rotate_left; (first | omega | (simp <;> omega))) | (with_reducible refine below_drewN ?_ _) | (with_reducible refine Below.drew ?_) | ((with_reducible refine Below.step (by assumption) ?_ ?_); rotate_left; (first | omega | (simp <;> omega))))) (OwnS.rs ov11aa))).mono ?_); rintro e v11c ⟨Tv11ca, kv11ca, rfl, ov11ca, gev11ca, hbv11c⟩; have hzv11c := hbv11c.size; (try simp at hzv11c); have cv11ca := fun o => hbv11c.cell (p := ⟨w.heap.size, o, none⟩) (by first | omega | (simp <;> omega)); have zv11ca : w.heap.size < v11c.heap.size := (by first | omega | (simp <;> omega)); have ev11ca : ¬ w.heap.size = v11c.heap.size := (by omega); have gv11ca : ¬ v11c.heap.size = w.heap.size := (by omega); have cv11cb := fun o => hbv11c.cell (p := ⟨w.heap.size + 1, o, none⟩) (by first | omega | (simp <;> omega)); have zv11cb : w.heap.size + 1 < v11c.heap.size := (by first | omega | (simp <;> omega)); have ev11cb : ¬ w.heap.size + 1 = v11c.heap.size := (by omega); have gv11cb : ¬ v11c.heap.size = w.heap.size + 1 := (by omega); (try (refine with_box hbv11c (u11.heap.size) ?_ ?_; (first | omega | (simp <;> omega)); intro ncv11c0 nfv11c0 nzv11c0)); (try (refine with_box hbv11c (v11a.heap.size) ?_ ?_; (first | omega | (simp <;> omega)); intro ncv11c1 nfv11c1 nzv11c1)); (try (refine with_box hbv11c (v11b.heap.size) ?_ ?_; (first | omega | (simp <;> omega)); intro ncv11c2 nfv11c2 nzv11c2))))
                          all_goals
                            go_wp2_with fail
                            go_meet
                            exact ⟨Tv11ca, kv11ca, _, rfl, Box.mk3 (by first | omega | (simp <;> omega)) (by go_simp) (by go_simp) (by go_simp), (by first | omega | (simp <;> omega)), (by repeat (first | (with_reducible exact ov11ca) | ((with_reducible refine OwnS.far ?_ (fun x hx => ?_) _); rotate_left; (have h1 := gev11ca x hx; have h2 := OwnS.lt ov11ca x hx; (try simp at h1); first | omega | (simp <;> omega))) | (with_reducible refine OwnS.alloc ?_ _) | (with_reducible refine OwnS.drewN ?_ _) | (with_reducible refine OwnS.drew ?_) | (with_reducible refine OwnS.step (by assumption) ?_))), (fun x hx => by have h1 := gev11ca x hx; (try simp at h1); first | omega | (simp <;> omega)), (fun x hx => by have h1 := gev11ca x hx; have h2 := OwnS.lt ov11ca x hx; (try simp at h1); first | omega | (simp <;> omega)), rfl, (by repeat (first | (with_reducible exact Below.refl _ _) | (with_reducible assumption) | ((with_reducible refine Below.alloc ?_ ?_ _); rotate_left; (first | omega | (simp <;> omega))) | ((with_reducible refine Below.setCell ?_ ?_ _); rotate_left; (first | omega | (simp <;> omega))) | (with_reducible refine below_drewN ?_ _) | (with_reducible refine Below.drew ?_) | ((with_reducible refine Below.step (by assumption) ?_ ?_); rotate_left; (first | omega | (simp <;> omega)))))⟩
                        case rest =>
                          obtain ⟨u12, rfl⟩ : ∃ u12, u12 = wc := ⟨_, rfl⟩
                          obtain ⟨A1114a, c1114a, B1114, rfl, bx1114, bg1114, o1114a, ge1114a, ne11140, rfl, hb⟩ := hcut
                          have lto38a11 := OwnS.lt o38a
                          have lbbx3811 := bx38.lt
                          have lto49a11 := OwnS.lt o49a
                          have lbbx4911 := bx49.lt
                          replace hB := Below.step hb hB hB.size
                          have hSs := hS.size
                          replace hS := Below.step hb hS hS.size
                          replace bx38 := Box.step hb bx38
                          replace o38a := OwnS.step hb o38a
                          replace bx49 := Box.step hb bx49
                          replace o49a := OwnS.step hb o49a
                          clear hb
                          go_upto_region 25 with fail
                          go_cut [95] (fun sd wx => sd = .bool false ∧ Below u12.heap.size u12 wx)
                          case first =>
                            obtain ⟨zb12a, cb12a0, cb12a1, cb12a2⟩ := bx1114.open3
                            obtain ⟨zb12b, cb12b0, cb12b1, cb12b2⟩ := (Box.step hS bx26).open3
                            go_wp2_with fail
                            refine (L_eqImage _ (RS.step (by repeat (first | (with_reducible exact Below.refl _ _) | (with_reducible assumption) | ((with_reducible refine Below.alloc ?_ ?_ _); rotate_left; (first | omega | (simp <;> omega))) | ((with_reducible refine Below.setCell ?_ ?_ _); rotate_left; (first | omega | (simp <;> omega))) | (with_reducible refine below_drewN ?_ _) | (with_reducible refine Below.drew ?_) | ((with_reducible refine Below.step (by assumption) ?_ ?_); rotate_left; (first | omega | (simp <;> omega))))) (OwnS.rs o1114a)) (RS.step (by repeat (first | (with_reducible exact Below.refl _ _) | (with_reducible assumption) | ((with_reducible refine Below.alloc ?_ ?_ _); rotate_left; (first | omega | (simp <;> omega))) | ((with_reducible refine Below.setCell ?_ ?_ _); rotate_left; (first | omega | (simp <;> omega))) | (with_reducible refine below_drewN ?_ _) | (with_reducible refine Below.drew ?_) | ((with_reducible refine Below.step (by assumption) ?_ ?_); rotate_left; (first | omega | (simp <;> omega))))) (RS.step hS o26a))).mono ?_
                            rintro e v12a ⟨rfl, hbv12a⟩
                            have hzv12a := hbv12a.size; (try simp at hzv12a)
                            have cv12aa := fun o => hbv12a.cell (p := ⟨B1114, o, none⟩) (by first | omega | (simp <;> omega))
                            have zv12aa : B1114 < v12a.heap.size := (by first | omega | (simp <;> omega))
                            have ev12aa : ¬ B1114 = v12a.heap.size := (by omega)
                            have gv12aa : ¬ v12a.heap.size = B1114 := (by omega)
                            have cv12ab := fun o => hbv12a.cell (p := ⟨B26, o, none⟩) (by first | omega | (simp <;> omega))
                            have zv12ab : B26 < v12a.heap.size := (by first | omega | (simp <;> omega))
                            have ev12ab : ¬ B26 = v12a.heap.size := (by omega)
                            have gv12ab : ¬ v12a.heap.size = B26 := (by omega)
                            go_wp2_with fail
                            go_meet
                            exact ⟨rfl, (by repeat (first | (with_reducible exact Below.refl _ _) | (with_reducible assumption) | ((with_reducible refine Below.alloc ?_ ?_ _); rotate_left; (first | omega | (simp <;> omega))) | ((with_reducible refine Below.setCell ?_ ?_ _); rotate_left; (first | omega | (simp <;> omega))) | (with_reducible refine below_drewN ?_ _) | (with_reducible refine Below.drew ?_) | ((with_reducible refine Below.step (by assumption) ?_ ?_); rotate_left; (first | omega | (simp <;> omega)))))⟩
                          case rest =>
                            obtain ⟨u13, rfl⟩ : ∃ u13, u13 = wc := ⟨_, rfl⟩
                            obtain ⟨rfl, hb⟩ := hcut
                            replace hB := Below.step hb hB hB.size
                            replace hS := Below.step hb hS hS.size
                            replace bx38 := Box.step hb bx38
                            replace o38a := OwnS.step hb o38a
                            replace bx49 := Box.step hb bx49
                            replace o49a := OwnS.step hb o49a
                            replace bx1114 := Box.step hb bx1114
                            replace o1114a := OwnS.step hb o1114a
                            clear hb
                            go_upto_region 28 with fail
                            go_cut [13] (fun sd wx => sd = .int .i64 ((1 : Int) + (r0lc.length : Int)) ∧ Below u13.heap.size u13 wx)
                            case first =>
                              obtain ⟨zb13a, cb13a0, cb13a1, cb13a2⟩ := bx49.open3
                              go_wp2_with fail
                              refine (L_heldImageG _ o49a (by omega) (by omega) (by omega)).mono ?_
                              rintro e v13a ⟨rfl, hbv13a⟩
                              have hzv13a := hbv13a.size; (try simp at hzv13a)
                              have cv13aa := fun o => hbv13a.cell (p := ⟨B49, o, none⟩) (by first | omega | (simp <;> omega))
                              have zv13aa : B49 < v13a.heap.size := (by first | omega | (simp <;> omega))
                              have ev13aa : ¬ B49 = v13a.heap.size := (by omega)
                              have gv13aa : ¬ v13a.heap.size = B49 := (by omega)
                              go_wp2_with fail
                              go_meet
                              exact ⟨rfl, (by repeat (first | (with_reducible exact Below.refl _ _) | (with_reducible assumption) | ((with_reducible refine Below.alloc ?_ ?_ _); rotate_left; (first | omega | (simp <;> omega))) | ((with_reducible refine Below.setCell ?_ ?_ _); rotate_left; (first | omega | (simp <;> omega))) | (with_reducible refine below_drewN ?_ _) | (with_reducible refine Below.drew ?_) | ((with_reducible refine Below.step (by assumption) ?_ ?_); rotate_left; (first | omega | (simp <;> omega)))))⟩
                            case rest =>
                              obtain ⟨u14, rfl⟩ : ∃ u14, u14 = wc := ⟨_, rfl⟩
                              obtain ⟨rfl, hb⟩ := hcut
                              replace hB := Below.step hb hB hB.size
                              replace hS := Below.step hb hS hS.size
                              replace bx38 := Box.step hb bx38
                              replace o38a := OwnS.step hb o38a
                              replace bx49 := Box.step hb bx49
                              replace o49a := OwnS.step hb o49a
                              replace bx1114 := Box.step hb bx1114
                              replace o1114a := OwnS.step hb o1114a
                              clear hb
                              have t13 : ¬ (1 : Int) + (r0lc.length : Int) < 0 := by omega
                              go_wp2
                              go_ret
                              exact ⟨rfl, hB⟩
theorem L_ExCropImage (y0a y0b : Int) (y0lc : List Int) (A0a : Option Addr) (p0a : Nat) (y1a : Int) (y1b : Int) (y1c : Int) (y1d : Int) (w : World)  (h0a : RS w 1 A0a y0lc.length p0a (ints y0lc)) :
    Calls Try.prog 10 #[(vImage y0a y0b (.slice A0a y0lc.length p0a)), (.agg #[.int .i64 y1a, .int .i64 y1b, .int .i64 y1c, .int .i64 y1d])] w fun e w' => e = .returned (.bool true) ∧ Below w.heap.size w w' := by
  have hb : (if cropOk y0a y0b y0lc y1a y1b y1c y1d then cropTo y0lc y0a.toNat y1a.toNat y1b.toNat y1c.toNat y1d.toNat else []).length ≤ 1048576 := by
    split
    · next h =>
      unfold cropOk at h
      simp only [Bool.and_eq_true] at h
      obtain ⟨a, b, xn, yn, pn, qn, rfl, rfl, rfl, rfl, rfl, rfl, ⟨a1, a2⟩, ⟨b1, b2⟩, hxp, hyq, hp1, hq1, hln⟩ := crop_nat h.1 h.2
      have h1 := cropTo_len y0lc a xn yn pn qn
      have h3 : qn * pn ≤ 12 * 12 := Nat.mul_le_mul (by omega) (by omega)
      simp only [Int.toNat_natCast]
      omega
    · simp
  exact L_ExCropImage1 y0a y0b y0lc A0a p0a y1a y1b y1c y1d (if cropOk y0a y0b y0lc y1a y1b y1c y1d then y1c else 0) (if cropOk y0a y0b y0lc y1a y1b y1c y1d then y1d else 0) _ (cropOk y0a y0b y0lc y1a y1b y1c y1d) w h0a hb (Lib.hid fun A p wx a1 => S_CropImage wx a1) (Lib.hid fun A p wx a1 => I_CropImage wx a1)
theorem FnExactCropImage_walk : LawWalk 10 [40, 69] := by
  intro H enc W base args ds ps hA hval hlt
  obtain ⟨v0, v1, rfl, a0, a1⟩ := args2 hA hval
  obtain ⟨y0a, y0b, A0a, p0a, y0lc, rfl, h0a⟩ := a0.image
  obtain ⟨y1a, y1b, y1c, y1d, rfl, _⟩ := a1.bucket
  exact L_ExCropImage y0a y0b y0lc A0a p0a y1a y1b y1c y1d W h0a
end Go.Proofs.Ytndipkclmecpoaa
