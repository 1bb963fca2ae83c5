/- FnFilterWindow: a sample outside the window of a pixel has no weight. -/
import Derived.Test.YthfnldjldfkmnaaFnWinP
import Derived.Test.YthfnldjldfkmnaaBytes
import Derived.Deep.DeepCutAuto
namespace Go.Proofs.Ythfnldjldfkmnaa
open Go.RowKit
set_option linter.unusedVariables false
set_option maxRecDepth 100000
theorem tmod_rng1 {v : Int} {a : Nat} (hv : 0 ≤ v) (ha : 1 ≤ a) : 0 ≤ Int.tmod v (a : Int) ∧ Int.tmod v (a : Int) ≤ a - 1 := by
  rw [Int.tmod_eq_emod_of_nonneg hv]
  have h1 := Int.emod_nonneg v (show (a : Int) ≠ 0 by omega)
  have h2 := Int.emod_lt_of_pos v (show 0 < (a : Int) by omega)
  omega
theorem I_win {a b : Nat} {k r x y u v i j : Int} {e : Bool} (w : World) (hv : validCam a b x y u v = true) (hf : validF k r = true) (hi : 0 ≤ i ∧ i ≤ a - 1) (hj : 0 ≤ j ∧ j ≤ b - 1) :
    Calls Try.prog 27 #[vFilter k r, vCamera a b x y e u v, .int .i64 i, .int .i64 j] w fun z w' => z = .returned (vBucket (winX i r) (winX j r) (winW a i r) (winW b j r)) ∧ Below w.heap.size w w' := by
  have := I_FilterWindow (k := k) (r := r) (a := a) (b := b) (c := x) (d := y) (e := e) (f := u) (g := v) (i := i) (j := j) w
  have ho : okWin k r a b x y u v i j = true := by
    unfold okWin inImg
    rw [hf, hv, inB_mk hi.1 hi.2, inB_mk hj.1 hj.2]; rfl
  unfold winV at this
  rwa [if_pos ho] at this
set_option maxHeartbeats 16000000 in
theorem L_FnFilterWindow : BytesLaw 5 := by
  intro A c l w h
  have HR := Lib.hid h
  have hlm := h.len
  unfold maxLen at hlm
  clear h
  rcases Nat.lt_or_ge 1048576 l.length with hbig | hsm
  · have hb' : (1048576 : Int) < (l.length : Int) := by omega
    go_enter Try.func5, Try.ntmps5
    go_wp2
    go_ret
    exact ⟨rfl, (by repeat (first | (with_reducible exact Below.refl _ _) | (with_reducible assumption) | ((with_reducible refine Below.alloc ?_ ?_ _); rotate_left; (first | omega | (simp <;> omega))) | ((with_reducible refine Below.setCell ?_ ?_ _); rotate_left; (first | omega | (simp <;> omega))) | (with_reducible refine below_drewN ?_ _) | (with_reducible refine Below.drew ?_) | ((with_reducible refine Below.step (by assumption) ?_ ?_); rotate_left; (first | omega | (simp <;> omega)))))⟩
  have hb' : ¬ (1048576 : Int) < (l.length : Int) := by omega
  have HM1 : Hid (∀ wx, RS wx 1 A l.length c (u8s l) → Calls Try.prog 26 #[.slice A l.length c, .int .i64 1] wx fun e w' => ∃ x, e = .returned (.int .i64 x) ∧ 0 ≤ x ∧ x ≤ 65535 ∧ Below wx.heap.size wx w') := fun wx h2 => S_makeNum (n := 1) wx hsm (by omega) h2
  have HM2 : Hid (∀ wx, RS wx 1 A l.length c (u8s l) → Calls Try.prog 26 #[.slice A l.length c, .int .i64 2] wx fun e w' => ∃ x, e = .returned (.int .i64 x) ∧ 0 ≤ x ∧ x ≤ 65535 ∧ Below wx.heap.size wx w') := fun wx h2 => S_makeNum (n := 2) wx hsm (by omega) h2
  go_enter Try.func5, Try.ntmps5
  go_upto_region 3 with fail
  go_cut [3] (fun p3 wx => ∃ (a b : Nat) (x y : Int) (e : Bool) (u v : Int) (B3 : Nat), p3 = .pointer (some ⟨B3, 0, none⟩) ∧ ((2 ≤ a ∧ a ≤ 5) ∧ (2 ≤ b ∧ b ≤ 5) ∧ validCam a b x y u v = true) ∧ Box wx B3 [.int .i64 a, .int .i64 b, .int .i64 x, .int .i64 y, .bool e, .int .i64 u, .int .i64 v] ∧ Below w.heap.size w wx)
  case first =>
    go_wp2_with fail
    refine (S_makeCamera _ hsm HR.out).mono ?_
    rintro ee w1 ⟨⟨a, b, x, y, e, u, v, rfl, ha, hb, hv⟩, hB1⟩
    have hz1 := hB1.size
    have HS := Lib.hid (And.intro ha (And.intro hb hv))
    clear ha hb hv
    go_wp2_with fail
    go_meet
    exact ⟨a, b, x, y, e, u, v, _, rfl, HS.out, Box.mk7 (by first | omega | (simp <;> omega)) (by go_simp) (by go_simp) (by go_simp) (by go_simp) (by go_simp) (by go_simp) (by go_simp), (by repeat (first | (with_reducible exact Below.refl _ _) | (with_reducible assumption) | ((with_reducible refine Below.alloc ?_ ?_ _); rotate_left; (first | omega | (simp <;> omega))) | ((with_reducible refine Below.setCell ?_ ?_ _); rotate_left; (first | omega | (simp <;> omega))) | (with_reducible refine below_drewN ?_ _) | (with_reducible refine Below.drew ?_) | ((with_reducible refine Below.step (by assumption) ?_ ?_); rotate_left; (first | omega | (simp <;> omega)))))⟩
  case rest =>
    obtain ⟨u3, rfl⟩ : ∃ u3, u3 = wc := ⟨_, rfl⟩
    obtain ⟨a, b, x, y, e, u, v, B3, rfl, ⟨⟨a1, a2⟩, ⟨b1, b2⟩, hv⟩, x3, hB⟩ := hcut
    have HV := Lib.hid hv
    have HX3 := Lib.hid x3
    have HRu := Lib.hid (RS.step hB HR.out)
    have HBu := Lib.hid hB
    clear hv x3 hB
    go_upto_region 4 with fail
    go_cut [4] (fun p4 wx => ∃ (k r : Int) (B4 : Nat), p4 = .pointer (some ⟨B4, 0, none⟩) ∧ validF k r = true ∧ Box wx B4 [.int .i64 k, .int .i64 r] ∧ Below u3.heap.size u3 wx)
    case first =>
      go_wp2_with fail
      refine (S_makeFilter _ hsm HRu.out).mono ?_
      rintro ee w1 ⟨⟨k, r, rfl, hf⟩, hB1⟩
      have hz1 := hB1.size
      have HS := Lib.hid hf
      clear hf
      go_wp2_with fail
      go_meet
      exact ⟨k, r, _, rfl, HS.out, Box.mk2 (by first | omega | (simp <;> omega)) (by go_simp) (by go_simp), (by repeat (first | (with_reducible exact Below.refl _ _) | (with_reducible assumption) | ((with_reducible refine Below.alloc ?_ ?_ _); rotate_left; (first | omega | (simp <;> omega))) | ((with_reducible refine Below.setCell ?_ ?_ _); rotate_left; (first | omega | (simp <;> omega))) | (with_reducible refine below_drewN ?_ _) | (with_reducible refine Below.drew ?_) | ((with_reducible refine Below.step (by assumption) ?_ ?_); rotate_left; (first | omega | (simp <;> omega)))))⟩
    case rest =>
      obtain ⟨u4, rfl⟩ : ∃ u4, u4 = wc := ⟨_, rfl⟩
      obtain ⟨k, r, B4, rfl, hf, x4, hbu4⟩ := hcut
      have HF := Lib.hid hf
      have HX4 := Lib.hid x4
      clear hf x4
      replace HRu := Lib.hid (RS.step hbu4 HRu.out)
      replace HX3 := Lib.hid (Box.step hbu4 HX3.out)
      replace HBu := Lib.hid (Below.trans HBu.out (hbu4.mono HBu.out.size))
      clear hbu4
      go_upto_region 5 with fail
      go_cut [5] (fun p5 wx => ∃ (p q t s z : Int) (B5 : Nat), p5 = .pointer (some ⟨B5, 0, none⟩) ∧ ((0 ≤ p ∧ p ≤ a * 16 - 1) ∧ 0 ≤ q ∧ q ≤ b * 16 - 1) ∧ Box wx B5 [.int .i64 p, .int .i64 q, .int .i64 t, .int .i64 s, .int .i64 z] ∧ Below u4.heap.size u4 wx)
      case first =>
        obtain ⟨z3, c0, c1, c2, c3, c4, c5, c6⟩ := HX3.out.open7
        go_wp2_with fail
        refine (S_makeSample _ hsm HRu.out HV.out).mono ?_
        rintro ee w1 ⟨⟨p, q, t, s, z, rfl, hpq⟩, hB1⟩
        have hz1 := hB1.size
        have HS := Lib.hid hpq
        clear hpq
        go_wp2_with fail
        go_meet
        exact ⟨p, q, t, s, z, _, rfl, HS.out, Box.mk5 (by first | omega | (simp <;> omega)) (by go_simp) (by go_simp) (by go_simp) (by go_simp) (by go_simp), (by repeat (first | (with_reducible exact Below.refl _ _) | (with_reducible assumption) | ((with_reducible refine Below.alloc ?_ ?_ _); rotate_left; (first | omega | (simp <;> omega))) | ((with_reducible refine Below.setCell ?_ ?_ _); rotate_left; (first | omega | (simp <;> omega))) | (with_reducible refine below_drewN ?_ _) | (with_reducible refine Below.drew ?_) | ((with_reducible refine Below.step (by assumption) ?_ ?_); rotate_left; (first | omega | (simp <;> omega)))))⟩
      case rest =>
        obtain ⟨u5, rfl⟩ : ∃ u5, u5 = wc := ⟨_, rfl⟩
        obtain ⟨p, q, t, s, z, B5, rfl, hpq, x5, hbu5⟩ := hcut
        have HPQ := Lib.hid hpq
        have HX5 := Lib.hid x5
        have na : ¬ a = 0 := by omega
        have nb : ¬ b = 0 := by omega
        clear hpq x5
        replace HRu := Lib.hid (RS.step hbu5 HRu.out)
        replace HX3 := Lib.hid (Box.step hbu5 HX3.out)
        replace HX4 := Lib.hid (Box.step hbu5 HX4.out)
        replace HBu := Lib.hid (Below.trans HBu.out (hbu5.mono HBu.out.size))
        clear hbu5
        go_upto_region 6 with fail
        go_cut [6] (fun p wx => ∃ (i : Int), p = .int .i64 i ∧ (0 ≤ i ∧ i ≤ a - 1) ∧ Below u5.heap.size u5 wx)
        case first =>
          obtain ⟨z3, c0, c1, c2, c3, c4, c5, c6⟩ := HX3.out.open7
          clear c2 c3 c4 c5 c6
          go_wp2_with fail
          go_region_held3 (fun w' => w'.cell? ⟨B3, 0, none⟩ = some (.int .i64 a))
            (first | ((try dsimp only); go_simp; done) | go_keep)
            (first | (go_at_call 26; (with_reducible refine (HM1.out _ (RS.step (by repeat (first | (with_reducible exact Below.refl _ _) | (with_reducible assumption) | ((with_reducible refine Below.alloc ?_ ?_ _); rotate_left; (first | omega | (simp <;> omega))) | ((with_reducible refine Below.setCell ?_ ?_ _); rotate_left; (first | omega | (simp <;> omega))) | (with_reducible refine below_drewN ?_ _) | (with_reducible refine Below.drew ?_) | ((with_reducible refine Below.step (by assumption) ?_ ?_); rotate_left; (first | omega | (simp <;> omega))))) HRu.out)).mono ?_); rintro ee m1 ⟨v1, rfl, v10, v11, hm1⟩; have hzm1 := hm1.size; (try simp at hzm1); have cm1 := fun o => hm1.cell (p := ⟨B3, o, none⟩) (by first | omega | (simp <;> omega)); have hBm1 : Below u5.heap.size u5 m1 := (by repeat (first | (with_reducible exact Below.refl _ _) | (with_reducible exact hm1) | (with_reducible assumption) | ((with_reducible refine Below.alloc ?_ ?_ _); rotate_left; (first | omega | (simp <;> omega))) | ((with_reducible refine Below.setCell ?_ ?_ _); rotate_left; (first | omega | (simp <;> omega))) | (with_reducible refine below_drewN ?_ _) | (with_reducible refine Below.drew ?_) | ((with_reducible refine Below.step (by assumption) ?_ ?_); rotate_left; (first | omega | (simp <;> omega))))); obtain ⟨tm1, tm2⟩ := tmod_rng1 (a := a) v10 (by omega); have yt1 : IntKind.i64.wrap (Int.tmod v1 (a : Int)) = Int.tmod v1 (a : Int) := IntWalk.i64_in _ (by omega)) | fail)
          all_goals
            go_wp2_with fail
            go_meet
            exact ⟨_, rfl, ⟨tm1, tm2⟩, (by repeat (first | (with_reducible exact Below.refl _ _) | (with_reducible exact hBm1) | (with_reducible assumption) | ((with_reducible refine Below.alloc ?_ ?_ _); rotate_left; (first | omega | (simp <;> omega))) | ((with_reducible refine Below.setCell ?_ ?_ _); rotate_left; (first | omega | (simp <;> omega))) | (with_reducible refine below_drewN ?_ _) | (with_reducible refine Below.drew ?_) | ((with_reducible refine Below.step (by assumption) ?_ ?_); rotate_left; (first | omega | (simp <;> omega)))))⟩
        case rest =>
          obtain ⟨u6, rfl⟩ : ∃ u6, u6 = wc := ⟨_, rfl⟩
          obtain ⟨i, rfl, hi, hbu6⟩ := hcut
          have Hi := Lib.hid hi
          clear hi
          replace HRu := Lib.hid (RS.step hbu6 HRu.out)
          replace HX3 := Lib.hid (Box.step hbu6 HX3.out)
          replace HX4 := Lib.hid (Box.step hbu6 HX4.out)
          replace HX5 := Lib.hid (Box.step hbu6 HX5.out)
          replace HBu := Lib.hid (Below.trans HBu.out (hbu6.mono HBu.out.size))
          clear hbu6
          go_upto_region 7 with fail
          go_cut [7] (fun p wx => ∃ (i : Int), p = .int .i64 i ∧ (0 ≤ i ∧ i ≤ b - 1) ∧ Below u6.heap.size u6 wx)
          case first =>
            obtain ⟨z3, c0, c1, c2, c3, c4, c5, c6⟩ := HX3.out.open7
            clear c2 c3 c4 c5 c6
            go_wp2_with fail
            go_region_held3 (fun w' => w'.cell? ⟨B3, 1, none⟩ = some (.int .i64 b))
              (first | ((try dsimp only); go_simp; done) | go_keep)
              (first | (go_at_call 26; (with_reducible refine (HM2.out _ (RS.step (by repeat (first | (with_reducible exact Below.refl _ _) | (with_reducible assumption) | ((with_reducible refine Below.alloc ?_ ?_ _); rotate_left; (first | omega | (simp <;> omega))) | ((with_reducible refine Below.setCell ?_ ?_ _); rotate_left; (first | omega | (simp <;> omega))) | (with_reducible refine below_drewN ?_ _) | (with_reducible refine Below.drew ?_) | ((with_reducible refine Below.step (by assumption) ?_ ?_); rotate_left; (first | omega | (simp <;> omega))))) HRu.out)).mono ?_); rintro ee m1 ⟨v1, rfl, v10, v11, hm1⟩; have hzm1 := hm1.size; (try simp at hzm1); have cm1 := fun o => hm1.cell (p := ⟨B3, o, none⟩) (by first | omega | (simp <;> omega)); have hBm1 : Below u6.heap.size u6 m1 := (by repeat (first | (with_reducible exact Below.refl _ _) | (with_reducible exact hm1) | (with_reducible assumption) | ((with_reducible refine Below.alloc ?_ ?_ _); rotate_left; (first | omega | (simp <;> omega))) | ((with_reducible refine Below.setCell ?_ ?_ _); rotate_left; (first | omega | (simp <;> omega))) | (with_reducible refine below_drewN ?_ _) | (with_reducible refine Below.drew ?_) | ((with_reducible refine Below.step (by assumption) ?_ ?_); rotate_left; (first | omega | (simp <;> omega))))); obtain ⟨tm1, tm2⟩ := tmod_rng1 (a := b) v10 (by omega); have yt1 : IntKind.i64.wrap (Int.tmod v1 (b : Int)) = Int.tmod v1 (b : Int) := IntWalk.i64_in _ (by omega)) | fail)
            all_goals
              go_wp2_with fail
              go_meet
              exact ⟨_, rfl, ⟨tm1, tm2⟩, (by repeat (first | (with_reducible exact Below.refl _ _) | (with_reducible exact hBm1) | (with_reducible assumption) | ((with_reducible refine Below.alloc ?_ ?_ _); rotate_left; (first | omega | (simp <;> omega))) | ((with_reducible refine Below.setCell ?_ ?_ _); rotate_left; (first | omega | (simp <;> omega))) | (with_reducible refine below_drewN ?_ _) | (with_reducible refine Below.drew ?_) | ((with_reducible refine Below.step (by assumption) ?_ ?_); rotate_left; (first | omega | (simp <;> omega)))))⟩
          case rest =>
            obtain ⟨u7, rfl⟩ : ∃ u7, u7 = wc := ⟨_, rfl⟩
            obtain ⟨j, rfl, hj, hbu7⟩ := hcut
            have Hj := Lib.hid hj
            clear hj
            replace HRu := Lib.hid (RS.step hbu7 HRu.out)
            replace HX3 := Lib.hid (Box.step hbu7 HX3.out)
            replace HX4 := Lib.hid (Box.step hbu7 HX4.out)
            replace HX5 := Lib.hid (Box.step hbu7 HX5.out)
            replace HBu := Lib.hid (Below.trans HBu.out (hbu7.mono HBu.out.size))
            clear hbu7
            have HW := Lib.hid (win_ways (k := k) (r := r) ⟨by omega, by omega⟩ ⟨by omega, by omega⟩ HF.out Hi.out Hj.out HPQ.out.1 HPQ.out.2)
            have HIN := Lib.hid (win_inside (a := a) (b := b) (validF_rng HF.out).2.2 Hi.out Hj.out)
            have HWN := Lib.hid (weightF_nn k r i j p q)
            have HWR : Hid ((0 ≤ winX i r ∧ winX i r ≤ 20) ∧ (0 ≤ winX j r ∧ winX j r ≤ 20) ∧ (0 ≤ winW a i r ∧ winW a i r ≤ 20) ∧ 0 ≤ winW b j r ∧ winW b j r ≤ 20) := by
              obtain ⟨⟨q1, q2⟩, ⟨q3, q4⟩, ⟨q5, q6⟩, q7, q8⟩ := insideF_true HIN.out
              show _ ∧ _
              omega
            have HCW : Hid (∀ wx, Calls Try.prog 27 #[vFilter k r, vCamera a b x y e u v, .int .i64 i, .int .i64 j] wx fun z w' => z = .returned (vBucket (winX i r) (winX j r) (winW a i r) (winW b j r)) ∧ Below wx.heap.size wx w') := fun wx => I_win wx HV.out HF.out Hi.out Hj.out
            have HCF : Hid (∀ wx, Calls Try.prog 29 #[vFilter k r, .int .i64 i, .int .i64 j, vSample p q t s z] wx fun e w' => e = .returned (.int .i64 (weightF k r i j p q)) ∧ Below wx.heap.size wx w') := fun wx => I_FilterWeight k r i j p q t s z wx
            have HCP : Hid (∀ wx, Calls Try.prog 28 #[vCamera a b x y e u v, .int .i64 p, .int .i64 q] wx fun r w' => r = .returned (.tuple #[.int .i64 (p / 16), .int .i64 (q / 16), .bool true]) ∧ Below wx.heap.size wx w') := fun wx => I_PixelAt wx HV.out HPQ.out.1 HPQ.out.2
            generalize winX i r = bx at *
            generalize winX j r = by_ at *
            generalize winW a i r = bw at *
            generalize winW b j r = bh at *
            generalize weightF k r i j p q = W at *
            generalize p / 16 = X at *
            generalize q / 16 = Y at *
            go_upto_region 8 with fail
            go_cut [8] (fun p8 wx => ∃ (B8 : Nat), p8 = .pointer (some ⟨B8, 0, none⟩) ∧ Box wx B8 [.int .i64 bx, .int .i64 by_, .int .i64 bw, .int .i64 bh] ∧ Below u7.heap.size u7 wx)
            case first =>
              obtain ⟨z3, c0, c1, c2, c3, c4, c5, c6⟩ := HX3.out.open7
              obtain ⟨z4, d0, d1⟩ := HX4.out.open2
              go_wp2_with fail
              refine (HCW.out _).mono ?_
              rintro ee w1 ⟨rfl, hB1⟩
              have hz1 := hB1.size
              go_wp2_with fail
              go_meet
              exact ⟨_, rfl, Box.mk4 (by first | omega | (simp <;> omega)) (by go_simp) (by go_simp) (by go_simp) (by go_simp), (by repeat (first | (with_reducible exact Below.refl _ _) | (with_reducible assumption) | ((with_reducible refine Below.alloc ?_ ?_ _); rotate_left; (first | omega | (simp <;> omega))) | ((with_reducible refine Below.setCell ?_ ?_ _); rotate_left; (first | omega | (simp <;> omega))) | (with_reducible refine below_drewN ?_ _) | (with_reducible refine Below.drew ?_) | ((with_reducible refine Below.step (by assumption) ?_ ?_); rotate_left; (first | omega | (simp <;> omega)))))⟩
            case rest =>
              obtain ⟨u8, rfl⟩ : ∃ u8, u8 = wc := ⟨_, rfl⟩
              obtain ⟨B8, rfl, x8, hbu8⟩ := hcut
              have HX8 := Lib.hid x8
              clear x8
              replace HRu := Lib.hid (RS.step hbu8 HRu.out)
              replace HX3 := Lib.hid (Box.step hbu8 HX3.out)
              replace HX4 := Lib.hid (Box.step hbu8 HX4.out)
              replace HX5 := Lib.hid (Box.step hbu8 HX5.out)
              replace HBu := Lib.hid (Below.trans HBu.out (hbu8.mono HBu.out.size))
              clear hbu8
              go_upto_region 9 with fail
              go_cut [9, 10, 11] (fun p9 p10 p11 wx => p9 = .int .i64 X ∧ p10 = .int .i64 Y ∧ p11 = .bool true ∧ Below u8.heap.size u8 wx)
              case first =>
                obtain ⟨z3, c0, c1, c2, c3, c4, c5, c6⟩ := HX3.out.open7
                obtain ⟨z5, d0, d1, d2, d3, d4⟩ := HX5.out.open5
                go_wp2_with fail
                refine (HCP.out _).mono ?_
                rintro ee w1 ⟨rfl, hB1⟩
                have hz1 := hB1.size
                go_wp2_with fail
                go_meet
                exact ⟨rfl, rfl, rfl, (by repeat (first | (with_reducible exact Below.refl _ _) | (with_reducible assumption) | ((with_reducible refine Below.alloc ?_ ?_ _); rotate_left; (first | omega | (simp <;> omega))) | ((with_reducible refine Below.setCell ?_ ?_ _); rotate_left; (first | omega | (simp <;> omega))) | (with_reducible refine below_drewN ?_ _) | (with_reducible refine Below.drew ?_) | ((with_reducible refine Below.step (by assumption) ?_ ?_); rotate_left; (first | omega | (simp <;> omega)))))⟩
              case rest =>
                obtain ⟨u9, rfl⟩ : ∃ u9, u9 = wc := ⟨_, rfl⟩
                obtain ⟨rfl, rfl, rfl, hbu9⟩ := hcut
                replace HRu := Lib.hid (RS.step hbu9 HRu.out)
                replace HX3 := Lib.hid (Box.step hbu9 HX3.out)
                replace HX4 := Lib.hid (Box.step hbu9 HX4.out)
                replace HX5 := Lib.hid (Box.step hbu9 HX5.out)
                replace HX8 := Lib.hid (Box.step hbu9 HX8.out)
                replace HBu := Lib.hid (Below.trans HBu.out (hbu9.mono HBu.out.size))
                clear hbu9
                go_upto_region 10 with fail
                go_cut [12] (fun p12 wx => ∃ inn : Bool, p12 = .bool inn ∧ ((inn = true ∧ ((¬ X = i) ∨ (X = i ∧ ¬ Y = j) ∨ (X = i ∧ Y = j ∧ 0 < W))) ∨ (inn = false ∧ W = 0 ∧ ((¬ X = i) ∨ (X = i ∧ ¬ Y = j)))) ∧ Below u9.heap.size u9 wx)
                case first =>
                  obtain ⟨z8, d0, d1, d2, d3⟩ := HX8.out.open4
                  obtain ⟨⟨q1, q2⟩, ⟨q3, q4⟩, ⟨q5, q6⟩, q7, q8⟩ := HWR.out
                  have yb1 : IntKind.i64.wrap (bx + bw) = bx + bw := IntWalk.i64_in _ (by omega)
                  have yb2 : IntKind.i64.wrap (by_ + bh) = by_ + bh := IntWalk.i64_in _ (by omega)
                  have t3 := fun (h : X = i) => h
                  clear t3
                  rcases HW.out with ⟨⟨⟨g1, g2⟩, g3, g4⟩, g5⟩ | ⟨⟨g1, g2⟩, g5⟩ | ⟨⟨g1, g2, g3⟩, g5⟩ | ⟨⟨⟨g1, g2⟩, g3, g4⟩, g5⟩ | ⟨⟨⟨g1, g2⟩, g3, g4, g6⟩, g5⟩
                  · have G5 := Lib.hid g5
                    clear g5
                    go_wp2_with fail
                    go_meet
                    exact ⟨_, rfl, .inl ⟨rfl, G5.out⟩, (by repeat (first | (with_reducible exact Below.refl _ _) | (with_reducible assumption) | ((with_reducible refine Below.alloc ?_ ?_ _); rotate_left; (first | omega | (simp <;> omega))) | ((with_reducible refine Below.setCell ?_ ?_ _); rotate_left; (first | omega | (simp <;> omega))) | (with_reducible refine below_drewN ?_ _) | (with_reducible refine Below.drew ?_) | ((with_reducible refine Below.step (by assumption) ?_ ?_); rotate_left; (first | omega | (simp <;> omega)))))⟩
                  · have G5 := Lib.hid g5
                    have G2 := Lib.hid g2
                    have n1 : ¬ bx ≤ X := by omega
                    clear g5 g2
                    go_wp2_with fail
                    go_meet
                    exact ⟨_, rfl, .inr ⟨rfl, G5.out, .inl G2.out⟩, (by repeat (first | (with_reducible exact Below.refl _ _) | (with_reducible assumption) | ((with_reducible refine Below.alloc ?_ ?_ _); rotate_left; (first | omega | (simp <;> omega))) | ((with_reducible refine Below.setCell ?_ ?_ _); rotate_left; (first | omega | (simp <;> omega))) | (with_reducible refine below_drewN ?_ _) | (with_reducible refine Below.drew ?_) | ((with_reducible refine Below.step (by assumption) ?_ ?_); rotate_left; (first | omega | (simp <;> omega)))))⟩
                  · have G5 := Lib.hid g5
                    have G2 := Lib.hid g3
                    clear g5 g3
                    go_wp2_with fail
                    go_meet
                    exact ⟨_, rfl, .inr ⟨rfl, G5.out, .inl G2.out⟩, (by repeat (first | (with_reducible exact Below.refl _ _) | (with_reducible assumption) | ((with_reducible refine Below.alloc ?_ ?_ _); rotate_left; (first | omega | (simp <;> omega))) | ((with_reducible refine Below.setCell ?_ ?_ _); rotate_left; (first | omega | (simp <;> omega))) | (with_reducible refine below_drewN ?_ _) | (with_reducible refine Below.drew ?_) | ((with_reducible refine Below.step (by assumption) ?_ ?_); rotate_left; (first | omega | (simp <;> omega)))))⟩
                  · have G5 := Lib.hid g5
                    have G2 := Lib.hid g4
                    have n1 : ¬ by_ ≤ Y := by omega
                    clear g5 g4
                    go_wp2_with fail
                    go_meet
                    exact ⟨_, rfl, .inr ⟨rfl, G5.out, by rcases Decidable.em (X = i) with e | e; exact .inr ⟨e, G2.out⟩; exact .inl e⟩, (by repeat (first | (with_reducible exact Below.refl _ _) | (with_reducible assumption) | ((with_reducible refine Below.alloc ?_ ?_ _); rotate_left; (first | omega | (simp <;> omega))) | ((with_reducible refine Below.setCell ?_ ?_ _); rotate_left; (first | omega | (simp <;> omega))) | (with_reducible refine below_drewN ?_ _) | (with_reducible refine Below.drew ?_) | ((with_reducible refine Below.step (by assumption) ?_ ?_); rotate_left; (first | omega | (simp <;> omega)))))⟩
                  · have G5 := Lib.hid g5
                    have G2 := Lib.hid g6
                    clear g5 g6
                    go_wp2_with fail
                    go_meet
                    exact ⟨_, rfl, .inr ⟨rfl, G5.out, by rcases Decidable.em (X = i) with e | e; exact .inr ⟨e, G2.out⟩; exact .inl e⟩, (by repeat (first | (with_reducible exact Below.refl _ _) | (with_reducible assumption) | ((with_reducible refine Below.alloc ?_ ?_ _); rotate_left; (first | omega | (simp <;> omega))) | ((with_reducible refine Below.setCell ?_ ?_ _); rotate_left; (first | omega | (simp <;> omega))) | (with_reducible refine below_drewN ?_ _) | (with_reducible refine Below.drew ?_) | ((with_reducible refine Below.step (by assumption) ?_ ?_); rotate_left; (first | omega | (simp <;> omega)))))⟩
                case rest =>
                  obtain ⟨u10, rfl⟩ : ∃ u10, u10 = wc := ⟨_, rfl⟩
                  obtain ⟨inn, rfl, hinn, hbu10⟩ := hcut
                  have HINN := Lib.hid hinn
                  clear hinn
                  replace HRu := Lib.hid (RS.step hbu10 HRu.out)
                  replace HX3 := Lib.hid (Box.step hbu10 HX3.out)
                  replace HX4 := Lib.hid (Box.step hbu10 HX4.out)
                  replace HX5 := Lib.hid (Box.step hbu10 HX5.out)
                  replace HX8 := Lib.hid (Box.step hbu10 HX8.out)
                  replace HBu := Lib.hid (Below.trans HBu.out (hbu10.mono HBu.out.size))
                  clear hbu10
                  go_upto_region 11 with fail
                  go_cut [13] (fun p13 wx => p13 = .int .i64 W ∧ Below u10.heap.size u10 wx)
                  case first =>
                    obtain ⟨z4, c0, c1⟩ := HX4.out.open2
                    obtain ⟨z5, d0, d1, d2, d3, d4⟩ := HX5.out.open5
                    go_wp2_with fail
                    refine (HCF.out _).mono ?_
                    rintro ee w1 ⟨rfl, hB1⟩
                    have hz1 := hB1.size
                    go_wp2_with fail
                    go_meet
                    exact ⟨rfl, (by repeat (first | (with_reducible exact Below.refl _ _) | (with_reducible assumption) | ((with_reducible refine Below.alloc ?_ ?_ _); rotate_left; (first | omega | (simp <;> omega))) | ((with_reducible refine Below.setCell ?_ ?_ _); rotate_left; (first | omega | (simp <;> omega))) | (with_reducible refine below_drewN ?_ _) | (with_reducible refine Below.drew ?_) | ((with_reducible refine Below.step (by assumption) ?_ ?_); rotate_left; (first | omega | (simp <;> omega)))))⟩
                  case rest =>
                    obtain ⟨u11, rfl⟩ : ∃ u11, u11 = wc := ⟨_, rfl⟩
                    obtain ⟨rfl, hbu11⟩ := hcut
                    replace HRu := Lib.hid (RS.step hbu11 HRu.out)
                    replace HX3 := Lib.hid (Box.step hbu11 HX3.out)
                    replace HX4 := Lib.hid (Box.step hbu11 HX4.out)
                    replace HX5 := Lib.hid (Box.step hbu11 HX5.out)
                    replace HX8 := Lib.hid (Box.step hbu11 HX8.out)
                    replace HBu := Lib.hid (Below.trans HBu.out (hbu11.mono HBu.out.size))
                    clear hbu11
                    obtain ⟨z3, c0, c1, c2, c3, c4, c5, c6⟩ := HX3.out.open7
                    obtain ⟨z8, d0, d1, d2, d3⟩ := HX8.out.open4
                    have HVB : Hid (∀ wx, Calls Try.prog 30 #[vCamera a b x y e u v, vBucket bx by_ bw bh] wx fun z w' => z = .returned (.bool true) ∧ Below wx.heap.size wx w') := fun wx => by
                      have := I_IsValidBucket (p := bx) (q := by_) (r := bw) (s := bh) (e := e) wx HV.out
                      rwa [HIN.out] at this
                    have wn := HWN.out
                    rcases HINN.out with ⟨rfl, hh⟩ | ⟨rfl, w0, hh⟩
                    · rcases hh with h1 | ⟨h1, h2⟩ | ⟨h1, h2, h3⟩
                      all_goals
                        go_wp2_with (first | (go_at_call 30; refine (HVB.out _).mono ?_; rintro ee w9 ⟨rfl, hw9⟩) | fail)
                        go_ret
                        exact ⟨rfl, Below.trans HBu.out (hw9.mono HBu.out.size)⟩
                    · rcases hh with h1 | ⟨h1, h2⟩
                      all_goals
                        go_wp2_with (first | (go_at_call 30; refine (HVB.out _).mono ?_; rintro ee w9 ⟨rfl, hw9⟩) | fail)
                        go_ret
                        exact ⟨rfl, Below.trans HBu.out (hw9.mono HBu.out.size)⟩
set_option maxRecDepth 100000 in
theorem FnFilterWindow_walk : LawWalk 5 [35] := bytes_walk L_FnFilterWindow
end Go.Proofs.Ythfnldjldfkmnaa
