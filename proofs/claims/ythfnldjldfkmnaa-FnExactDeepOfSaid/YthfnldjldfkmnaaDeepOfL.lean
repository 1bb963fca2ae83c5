/- MADE BY PROGRAM (genlaw.py). The law FnExactDeepOf. -/
import Derived.Test.YthfnldjldfkmnaaDeepOfS
import Derived.Test.YthfnldjldfkmnaaDeepOfI
import Derived.Test.YthfnldjldfkmnaaMade
import Derived.Deep.RegionHeld3
import Derived.Deep.DeepCutAuto
namespace Go.Proofs.Ythfnldjldfkmnaa
open Go.ChangeShapes Go.WideShapes Go.ChangeAt Go.RowKit
set_option linter.unusedVariables false
set_option maxRecDepth 100000
set_option maxHeartbeats 8000000 in
theorem L_ExDeepOf1 (y0l : List EFragment) (A0a : Option Addr) (p0a : Nat) (r0l : List EDeepStep) (w : World) (h0a : RS w 5 A0a y0l.length p0a (rFragment y0l)) (br0l' : y0l.length ≤ 1048576 → r0l.length ≤ 1048576) (HS : Hid (y0l.length ≤ 1048576 → ∀ (A0a : Option Addr) (p0a : Nat), ∀ (wx : World), RS wx 5 A0a y0l.length p0a (rFragment y0l) → Calls Try.prog 50 #[(.slice A0a y0l.length p0a)] wx (MadeRow 161 2 r0l.length (rDeepStep r0l) wx))) (HI : Hid (y0l.length ≤ 1048576 → ∀ (A0a : Option Addr) (p0a : Nat), ∀ (wx : World), RS wx 5 A0a y0l.length p0a (rFragment y0l) → Calls Try.prog 44 #[(.slice A0a y0l.length p0a)] wx (MadeRow 161 2 r0l.length (rDeepStep r0l) wx))) :
    Calls Try.prog 10 #[(.slice A0a y0l.length p0a)] w fun e w' => e = .returned (.bool true) ∧ Below w.heap.size w w' := by
  have mh0a := h0a.len
  unfold maxLen at *
  go_enter Try.func10, Try.ntmps10
  go_upto_region 1 with fail
  go_cut [3] (fun sl wx => sl = .int .i64 1048576 ∧ RS wx 5 A0a y0l.length p0a (rFragment y0l) ∧ Below w.heap.size w wx)
  case first =>
    go_wp2_with fail
    go_meet
    exact ⟨rfl, (RS.step (by repeat (first | (with_reducible exact Below.refl _ _) | (with_reducible assumption) | ((with_reducible refine Below.alloc ?_ ?_ _); rotate_left; (first | omega | (simp <;> omega))) | ((with_reducible refine Below.setCell ?_ ?_ _); rotate_left; (first | omega | (simp <;> omega))) | (with_reducible refine below_drewN ?_ _) | (with_reducible refine Below.drew ?_) | ((with_reducible refine Below.step (by assumption) ?_ ?_); rotate_left; (first | omega | (simp <;> omega))))) h0a), (by repeat (first | (with_reducible exact Below.refl _ _) | (with_reducible assumption) | ((with_reducible refine Below.alloc ?_ ?_ _); rotate_left; (first | omega | (simp <;> omega))) | ((with_reducible refine Below.setCell ?_ ?_ _); rotate_left; (first | omega | (simp <;> omega))) | (with_reducible refine below_drewN ?_ _) | (with_reducible refine Below.drew ?_) | ((with_reducible refine Below.step (by assumption) ?_ ?_); rotate_left; (first | omega | (simp <;> omega)))))⟩
  case rest =>
    obtain ⟨u1, rfl⟩ : ∃ u1, u1 = wc := ⟨_, rfl⟩
    obtain ⟨rfl, qh0a, hB⟩ := hcut
    go_upto_region 2 with fail
    go_cut [3] (fun sl wx => (sl = .int .i64 (-1) ∨ ∃ z : Int, sl = .int .i64 z ∧ 0 ≤ z ∧ z ≤ 1048576 ∧ (y0l.length : Int) ≤ 1048576) ∧ Below u1.heap.size u1 wx)
    case first =>
      go_wp2_with fail
      refine (L_szFragmentS _ (by first | omega | assumption) (by first | omega | assumption) (by unfold maxLen; first | omega | assumption)).mono ?_
      rintro e v1a ⟨rfl, rfl⟩
      go_wp2_with fail
      go_meet
      rcases szF_or (1048576) y0l.length with hq | ⟨hq0, hq1, hq2⟩
      · exact ⟨.inl (by rw [hq]), (by repeat (first | (with_reducible exact Below.refl _ _) | (with_reducible assumption) | ((with_reducible refine Below.alloc ?_ ?_ _); rotate_left; (first | omega | (simp <;> omega))) | ((with_reducible refine Below.setCell ?_ ?_ _); rotate_left; (first | omega | (simp <;> omega))) | (with_reducible refine below_drewN ?_ _) | (with_reducible refine Below.drew ?_) | ((with_reducible refine Below.step (by assumption) ?_ ?_); rotate_left; (first | omega | (simp <;> omega)))))⟩
      · exact ⟨.inr ⟨_, rfl, hq0, hq1, hq2⟩, (by repeat (first | (with_reducible exact Below.refl _ _) | (with_reducible assumption) | ((with_reducible refine Below.alloc ?_ ?_ _); rotate_left; (first | omega | (simp <;> omega))) | ((with_reducible refine Below.setCell ?_ ?_ _); rotate_left; (first | omega | (simp <;> omega))) | (with_reducible refine below_drewN ?_ _) | (with_reducible refine Below.drew ?_) | ((with_reducible refine Below.step (by assumption) ?_ ?_); rotate_left; (first | omega | (simp <;> omega)))))⟩
    case rest =>
      obtain ⟨u2, rfl⟩ : ∃ u2, u2 = wc := ⟨_, rfl⟩
      obtain ⟨hsl, hb⟩ := hcut
      replace hB := Below.step hb hB hB.size
      replace qh0a := RS.step hb qh0a
      clear hb
      rcases hsl with rfl | ⟨z1, rfl, hz10, hz11, hz12⟩
      · go_wp2
        go_ret
        exact ⟨rfl, hB⟩
      have by0l : y0l.length ≤ 1048576 := by omega
      have br0l := br0l' by0l
      have HS := Lib.hid (HS.out by0l)
      have HI := Lib.hid (HI.out by0l)
      have t1 : ¬ z1 < 0 := by omega
      go_upto_region 5 with fail
      go_cut [4] (fun s4 wx => ∃ A24a c24a, s4 = (.slice A24a r0l.length c24a) ∧ OwnS wx 2 A24a r0l.length c24a 161 (rDeepStep r0l) ∧ (∀ x, x ∈ gOf A24a → u2.heap.size ≤ x) ∧ Below u2.heap.size u2 wx)
      case first =>
        go_wp2_with fail
        refine (L_toFragmentSM (l := y0l) _ by0l (RS.step (by repeat (first | (with_reducible exact Below.refl _ _) | (with_reducible assumption) | ((with_reducible refine Below.alloc ?_ ?_ _); rotate_left; (first | omega | (simp <;> omega))) | ((with_reducible refine Below.setCell ?_ ?_ _); rotate_left; (first | omega | (simp <;> omega))) | (with_reducible refine below_drewN ?_ _) | (with_reducible refine Below.drew ?_) | ((with_reducible refine Below.step (by assumption) ?_ ?_); rotate_left; (first | omega | (simp <;> omega))))) qh0a)).mono ?_
        rintro e v2a ⟨Tv2aa, kv2aa, rfl, ov2aa, gev2aa, hbv2a⟩
        have hzv2a := hbv2a.size; (try simp at hzv2a)
        go_wp2_with fail
        refine (HS.out _ _ _ (RS.step (by repeat (first | (with_reducible exact Below.refl _ _) | (with_reducible assumption) | ((with_reducible refine Below.alloc ?_ ?_ _); rotate_left; (first | omega | (simp <;> omega))) | ((with_reducible refine Below.setCell ?_ ?_ _); rotate_left; (first | omega | (simp <;> omega))) | (with_reducible refine below_drewN ?_ _) | (with_reducible refine Below.drew ?_) | ((with_reducible refine Below.step (by assumption) ?_ ?_); rotate_left; (first | omega | (simp <;> omega))))) (OwnS.rs ov2aa))).mono ?_
        rintro e v2b ⟨Tv2ba, kv2ba, rfl, ov2ba, gev2ba, hbv2b⟩
        have hzv2b := hbv2b.size; (try simp at hzv2b)
        go_wp2_with fail
        go_meet
        exact ⟨Tv2ba, kv2ba, rfl, (by repeat (first | (with_reducible exact ov2ba) | ((with_reducible refine OwnS.far ?_ (fun x hx => ?_) _); rotate_left; (have h1 := gev2ba x hx; have h2 := OwnS.lt ov2ba x hx; (try simp at h1); first | omega | (simp <;> omega))) | (with_reducible refine OwnS.alloc ?_ _) | (with_reducible refine OwnS.drewN ?_ _) | (with_reducible refine OwnS.drew ?_) | (with_reducible refine OwnS.step (by assumption) ?_))), (fun x hx => by have h1 := gev2ba x hx; (try simp at h1); first | omega | (simp <;> omega)), (by repeat (first | (with_reducible exact Below.refl _ _) | (with_reducible assumption) | ((with_reducible refine Below.alloc ?_ ?_ _); rotate_left; (first | omega | (simp <;> omega))) | ((with_reducible refine Below.setCell ?_ ?_ _); rotate_left; (first | omega | (simp <;> omega))) | (with_reducible refine below_drewN ?_ _) | (with_reducible refine Below.drew ?_) | ((with_reducible refine Below.step (by assumption) ?_ ?_); rotate_left; (first | omega | (simp <;> omega)))))⟩
      case rest =>
        obtain ⟨u3, rfl⟩ : ∃ u3, u3 = wc := ⟨_, rfl⟩
        obtain ⟨A24a, c24a, rfl, o24a, ge24a, hb⟩ := hcut
        replace hB := Below.step hb hB hB.size
        replace qh0a := RS.step hb qh0a
        replace o24a := OwnS.rs o24a
        have hS := Below.refl u3.heap.size u3
        have hBS := hB.size
        go_upto_region 6 with fail
        go_cut [5] (fun s5 wx => ∃ A35a c35a, s5 = (.slice A35a y0l.length c35a) ∧ OwnS wx 5 A35a y0l.length c35a 83 (rFragment y0l) ∧ (∀ x, x ∈ gOf A35a → u3.heap.size ≤ x) ∧ Below u3.heap.size u3 wx)
        case first =>
          go_wp2_with fail
          refine (L_toFragmentSM (l := y0l) _ by0l (RS.step (by repeat (first | (with_reducible exact Below.refl _ _) | (with_reducible assumption) | ((with_reducible refine Below.alloc ?_ ?_ _); rotate_left; (first | omega | (simp <;> omega))) | ((with_reducible refine Below.setCell ?_ ?_ _); rotate_left; (first | omega | (simp <;> omega))) | (with_reducible refine below_drewN ?_ _) | (with_reducible refine Below.drew ?_) | ((with_reducible refine Below.step (by assumption) ?_ ?_); rotate_left; (first | omega | (simp <;> omega))))) (RS.step hS qh0a))).mono ?_
          rintro e v3a ⟨Tv3aa, kv3aa, rfl, ov3aa, gev3aa, hbv3a⟩
          have hzv3a := hbv3a.size; (try simp at hzv3a)
          go_wp2_with fail
          go_meet
          exact ⟨Tv3aa, kv3aa, rfl, (by repeat (first | (with_reducible exact ov3aa) | ((with_reducible refine OwnS.far ?_ (fun x hx => ?_) _); rotate_left; (have h1 := gev3aa x hx; have h2 := OwnS.lt ov3aa x hx; (try simp at h1); first | omega | (simp <;> omega))) | (with_reducible refine OwnS.alloc ?_ _) | (with_reducible refine OwnS.drewN ?_ _) | (with_reducible refine OwnS.drew ?_) | (with_reducible refine OwnS.step (by assumption) ?_))), (fun x hx => by have h1 := gev3aa x hx; (try simp at h1); first | omega | (simp <;> omega)), (by repeat (first | (with_reducible exact Below.refl _ _) | (with_reducible assumption) | ((with_reducible refine Below.alloc ?_ ?_ _); rotate_left; (first | omega | (simp <;> omega))) | ((with_reducible refine Below.setCell ?_ ?_ _); rotate_left; (first | omega | (simp <;> omega))) | (with_reducible refine below_drewN ?_ _) | (with_reducible refine Below.drew ?_) | ((with_reducible refine Below.step (by assumption) ?_ ?_); rotate_left; (first | omega | (simp <;> omega)))))⟩
        case rest =>
          obtain ⟨u4, rfl⟩ : ∃ u4, u4 = wc := ⟨_, rfl⟩
          obtain ⟨A35a, c35a, rfl, o35a, ge35a, hb⟩ := hcut
          replace hB := Below.step hb hB hB.size
          have hSs := hS.size
          replace hS := Below.step hb hS hS.size
          clear hb
          go_upto_region 7 with fail
          go_cut [6] (fun s6 wx => ∃ A46a c46a, s6 = (.slice A46a r0l.length c46a) ∧ OwnS wx 2 A46a r0l.length c46a 161 (rDeepStep r0l) ∧ (∀ x, x ∈ gOf A46a → u4.heap.size ≤ x) ∧ Below u4.heap.size u4 wx)
          case first =>
            go_wp2_with fail
            refine (HI.out _ _ _ (RS.step (by repeat (first | (with_reducible exact Below.refl _ _) | (with_reducible assumption) | ((with_reducible refine Below.alloc ?_ ?_ _); rotate_left; (first | omega | (simp <;> omega))) | ((with_reducible refine Below.setCell ?_ ?_ _); rotate_left; (first | omega | (simp <;> omega))) | (with_reducible refine below_drewN ?_ _) | (with_reducible refine Below.drew ?_) | ((with_reducible refine Below.step (by assumption) ?_ ?_); rotate_left; (first | omega | (simp <;> omega))))) (OwnS.rs o35a))).mono ?_
            rintro e v4a ⟨Tv4aa, kv4aa, rfl, ov4aa, gev4aa, hbv4a⟩
            have hzv4a := hbv4a.size; (try simp at hzv4a)
            go_wp2_with fail
            go_meet
            exact ⟨Tv4aa, kv4aa, rfl, (by repeat (first | (with_reducible exact ov4aa) | ((with_reducible refine OwnS.far ?_ (fun x hx => ?_) _); rotate_left; (have h1 := gev4aa x hx; have h2 := OwnS.lt ov4aa x hx; (try simp at h1); first | omega | (simp <;> omega))) | (with_reducible refine OwnS.alloc ?_ _) | (with_reducible refine OwnS.drewN ?_ _) | (with_reducible refine OwnS.drew ?_) | (with_reducible refine OwnS.step (by assumption) ?_))), (fun x hx => by have h1 := gev4aa x hx; (try simp at h1); first | omega | (simp <;> omega)), (by repeat (first | (with_reducible exact Below.refl _ _) | (with_reducible assumption) | ((with_reducible refine Below.alloc ?_ ?_ _); rotate_left; (first | omega | (simp <;> omega))) | ((with_reducible refine Below.setCell ?_ ?_ _); rotate_left; (first | omega | (simp <;> omega))) | (with_reducible refine below_drewN ?_ _) | (with_reducible refine Below.drew ?_) | ((with_reducible refine Below.step (by assumption) ?_ ?_); rotate_left; (first | omega | (simp <;> omega)))))⟩
          case rest =>
            obtain ⟨u5, rfl⟩ : ∃ u5, u5 = wc := ⟨_, rfl⟩
            obtain ⟨A46a, c46a, rfl, o46a, ge46a, hb⟩ := hcut
            have lto35a4 := OwnS.lt o35a
            replace hB := Below.step hb hB hB.size
            have hSs := hS.size
            replace hS := Below.step hb hS hS.size
            replace o35a := OwnS.step hb o35a
            clear hb
            go_upto_region 8 with fail
            go_cut [26] (fun sd wx => sd = .bool false ∧ Below u5.heap.size u5 wx)
            case first =>
              go_wp2_with fail
              refine (L_eqDeepStepS _ (RS.step (by repeat (first | (with_reducible exact Below.refl _ _) | (with_reducible assumption) | ((with_reducible refine Below.alloc ?_ ?_ _); rotate_left; (first | omega | (simp <;> omega))) | ((with_reducible refine Below.setCell ?_ ?_ _); rotate_left; (first | omega | (simp <;> omega))) | (with_reducible refine below_drewN ?_ _) | (with_reducible refine Below.drew ?_) | ((with_reducible refine Below.step (by assumption) ?_ ?_); rotate_left; (first | omega | (simp <;> omega))))) (OwnS.rs o46a)) (RS.step (by repeat (first | (with_reducible exact Below.refl _ _) | (with_reducible assumption) | ((with_reducible refine Below.alloc ?_ ?_ _); rotate_left; (first | omega | (simp <;> omega))) | ((with_reducible refine Below.setCell ?_ ?_ _); rotate_left; (first | omega | (simp <;> omega))) | (with_reducible refine below_drewN ?_ _) | (with_reducible refine Below.drew ?_) | ((with_reducible refine Below.step (by assumption) ?_ ?_); rotate_left; (first | omega | (simp <;> omega))))) (RS.step hS o24a))).mono ?_
              rintro e v5a ⟨rfl, hbv5a⟩
              have hzv5a := hbv5a.size; (try simp at hzv5a)
              go_wp2_with fail
              go_meet
              exact ⟨rfl, (by repeat (first | (with_reducible exact Below.refl _ _) | (with_reducible assumption) | ((with_reducible refine Below.alloc ?_ ?_ _); rotate_left; (first | omega | (simp <;> omega))) | ((with_reducible refine Below.setCell ?_ ?_ _); rotate_left; (first | omega | (simp <;> omega))) | (with_reducible refine below_drewN ?_ _) | (with_reducible refine Below.drew ?_) | ((with_reducible refine Below.step (by assumption) ?_ ?_); rotate_left; (first | omega | (simp <;> omega)))))⟩
            case rest =>
              obtain ⟨u6, rfl⟩ : ∃ u6, u6 = wc := ⟨_, rfl⟩
              obtain ⟨rfl, hb⟩ := hcut
              replace hB := Below.step hb hB hB.size
              replace hS := Below.step hb hS hS.size
              replace o35a := OwnS.step hb o35a
              replace o46a := OwnS.step hb o46a
              clear hb
              go_upto_region 10 with fail
              go_cut [31] (fun sd wx => sd = .bool false ∧ Below u6.heap.size u6 wx)
              case first =>
                go_wp2_with fail
                refine (L_toFragmentSM (l := y0l) _ by0l (RS.step (by repeat (first | (with_reducible exact Below.refl _ _) | (with_reducible assumption) | ((with_reducible refine Below.alloc ?_ ?_ _); rotate_left; (first | omega | (simp <;> omega))) | ((with_reducible refine Below.setCell ?_ ?_ _); rotate_left; (first | omega | (simp <;> omega))) | (with_reducible refine below_drewN ?_ _) | (with_reducible refine Below.drew ?_) | ((with_reducible refine Below.step (by assumption) ?_ ?_); rotate_left; (first | omega | (simp <;> omega))))) (RS.step hS qh0a))).mono ?_
                rintro e v6a ⟨Tv6aa, kv6aa, rfl, ov6aa, gev6aa, hbv6a⟩
                have hzv6a := hbv6a.size; (try simp at hzv6a)
                go_wp2_with fail
                refine (L_eqFragmentS _ (RS.step (by repeat (first | (with_reducible exact Below.refl _ _) | (with_reducible assumption) | ((with_reducible refine Below.alloc ?_ ?_ _); rotate_left; (first | omega | (simp <;> omega))) | ((with_reducible refine Below.setCell ?_ ?_ _); rotate_left; (first | omega | (simp <;> omega))) | (with_reducible refine below_drewN ?_ _) | (with_reducible refine Below.drew ?_) | ((with_reducible refine Below.step (by assumption) ?_ ?_); rotate_left; (first | omega | (simp <;> omega))))) (OwnS.rs o35a)) (RS.step (by repeat (first | (with_reducible exact Below.refl _ _) | (with_reducible assumption) | ((with_reducible refine Below.alloc ?_ ?_ _); rotate_left; (first | omega | (simp <;> omega))) | ((with_reducible refine Below.setCell ?_ ?_ _); rotate_left; (first | omega | (simp <;> omega))) | (with_reducible refine below_drewN ?_ _) | (with_reducible refine Below.drew ?_) | ((with_reducible refine Below.step (by assumption) ?_ ?_); rotate_left; (first | omega | (simp <;> omega))))) (OwnS.rs ov6aa))).mono ?_
                rintro e v6b ⟨rfl, hbv6b⟩
                have hzv6b := hbv6b.size; (try simp at hzv6b)
                go_wp2_with fail
                go_meet
                exact ⟨rfl, (by repeat (first | (with_reducible exact Below.refl _ _) | (with_reducible assumption) | ((with_reducible refine Below.alloc ?_ ?_ _); rotate_left; (first | omega | (simp <;> omega))) | ((with_reducible refine Below.setCell ?_ ?_ _); rotate_left; (first | omega | (simp <;> omega))) | (with_reducible refine below_drewN ?_ _) | (with_reducible refine Below.drew ?_) | ((with_reducible refine Below.step (by assumption) ?_ ?_); rotate_left; (first | omega | (simp <;> omega)))))⟩
              case rest =>
                obtain ⟨u7, rfl⟩ : ∃ u7, u7 = wc := ⟨_, rfl⟩
                obtain ⟨rfl, hb⟩ := hcut
                replace hB := Below.step hb hB hB.size
                replace hS := Below.step hb hS hS.size
                replace o35a := OwnS.step hb o35a
                replace o46a := OwnS.step hb o46a
                clear hb
                go_upto_region 13 with fail
                go_cut [7] (fun sd wx => sd = .int .i64 ((1 : Int) + 5 * (y0l.length : Int)) ∧ OwnS wx 5 A35a y0l.length c35a 83 (ints (upFrom (1 : Int) (y0l.length * 5))) ∧ Only u7.heap.size (gOf A35a) u7 wx)
                case first =>
                  go_wp2_with fail
                  refine (L_markFragmentSG _ o35a (by omega) (by omega) (by omega)).mono ?_
                  rintro e v7a ⟨rfl, ov7aa, hOv7a⟩
                  have hzv7a := hOv7a.size
                  go_wp2_with fail
                  go_meet
                  exact ⟨rfl, ov7aa, hOv7a⟩
                case rest =>
                  obtain ⟨u8, rfl⟩ : ∃ u8, u8 = wc := ⟨_, rfl⟩
                  obtain ⟨rfl, nw0, hO⟩ := hcut
                  have hG : ∀ y, y ∈ gOf A35a → u3.heap.size ≤ y := ge35a
                  replace hB := hB.trans (hO.below hB.size (fun y hy => by have := hG y hy; omega))
                  replace hS := hS.trans (hO.below hS.size (fun y hy => by have := hG y hy; omega))
                  have hL : ∀ y, y ∈ gOf A35a → y < u4.heap.size := lto35a4
                  replace o46a := OwnS.only o46a hO (fun y hy => ⟨OwnS.lt o46a y hy, fun hx => by have h1 := hL y hx; have h2 := ge46a y hy; omega⟩)
                  clear o35a
                  have o35a := nw0
                  clear nw0
                  clear hO hG
                  have t7 : ¬ (1 : Int) + 5 * (y0l.length : Int) < 0 := by omega
                  go_upto_region 14 with fail
                  go_cut [42] (fun sd wx => sd = .bool false ∧ Below u8.heap.size u8 wx)
                  case first =>
                    go_wp2_with fail
                    refine (L_eqDeepStepS _ (RS.step (by repeat (first | (with_reducible exact Below.refl _ _) | (with_reducible assumption) | ((with_reducible refine Below.alloc ?_ ?_ _); rotate_left; (first | omega | (simp <;> omega))) | ((with_reducible refine Below.setCell ?_ ?_ _); rotate_left; (first | omega | (simp <;> omega))) | (with_reducible refine below_drewN ?_ _) | (with_reducible refine Below.drew ?_) | ((with_reducible refine Below.step (by assumption) ?_ ?_); rotate_left; (first | omega | (simp <;> omega))))) (OwnS.rs o46a)) (RS.step (by repeat (first | (with_reducible exact Below.refl _ _) | (with_reducible assumption) | ((with_reducible refine Below.alloc ?_ ?_ _); rotate_left; (first | omega | (simp <;> omega))) | ((with_reducible refine Below.setCell ?_ ?_ _); rotate_left; (first | omega | (simp <;> omega))) | (with_reducible refine below_drewN ?_ _) | (with_reducible refine Below.drew ?_) | ((with_reducible refine Below.step (by assumption) ?_ ?_); rotate_left; (first | omega | (simp <;> omega))))) (RS.step hS o24a))).mono ?_
                    rintro e v8a ⟨rfl, hbv8a⟩
                    have hzv8a := hbv8a.size; (try simp at hzv8a)
                    go_wp2_with fail
                    go_meet
                    exact ⟨rfl, (by repeat (first | (with_reducible exact Below.refl _ _) | (with_reducible assumption) | ((with_reducible refine Below.alloc ?_ ?_ _); rotate_left; (first | omega | (simp <;> omega))) | ((with_reducible refine Below.setCell ?_ ?_ _); rotate_left; (first | omega | (simp <;> omega))) | (with_reducible refine below_drewN ?_ _) | (with_reducible refine Below.drew ?_) | ((with_reducible refine Below.step (by assumption) ?_ ?_); rotate_left; (first | omega | (simp <;> omega)))))⟩
                  case rest =>
                    obtain ⟨u9, rfl⟩ : ∃ u9, u9 = wc := ⟨_, rfl⟩
                    obtain ⟨rfl, hb⟩ := hcut
                    replace hB := Below.step hb hB hB.size
                    replace hS := Below.step hb hS hS.size
                    replace o35a := OwnS.step hb o35a
                    replace o46a := OwnS.step hb o46a
                    clear hb
                    go_upto_region 17 with fail
                    go_cut [8] (fun sd wx => sd = .int .i64 ((1 : Int) + 2 * (r0l.length : Int)) ∧ OwnS wx 2 A46a r0l.length c46a 161 (ints (upFrom (1 : Int) (r0l.length * 2))) ∧ Only u9.heap.size (gOf A46a) u9 wx)
                    case first =>
                      go_wp2_with fail
                      refine (L_markDeepStepSG _ o46a (by omega) (by omega) (by omega)).mono ?_
                      rintro e v9a ⟨rfl, ov9aa, hOv9a⟩
                      have hzv9a := hOv9a.size
                      go_wp2_with fail
                      go_meet
                      exact ⟨rfl, ov9aa, hOv9a⟩
                    case rest =>
                      obtain ⟨u10, rfl⟩ : ∃ u10, u10 = wc := ⟨_, rfl⟩
                      obtain ⟨rfl, nw0, hO⟩ := hcut
                      have hG : ∀ y, y ∈ gOf A46a → u4.heap.size ≤ y := ge46a
                      replace hB := hB.trans (hO.below hB.size (fun y hy => by have := hG y hy; omega))
                      replace hS := hS.trans (hO.below hS.size (fun y hy => by have := hG y hy; omega))
                      replace o35a := OwnS.only o35a hO (fun y hy => ⟨OwnS.lt o35a y hy, fun hx => by have h1 := hG y hx; have h2 := lto35a4 y hy; omega⟩)
                      clear o46a
                      have o46a := nw0
                      clear nw0
                      clear hO hG
                      have t9 : ¬ (1 : Int) + 2 * (r0l.length : Int) < 0 := by omega
                      go_upto_region 19 with fail
                      go_cut [9] (fun sd wx => sd = .int .i64 ((1 : Int) + 2 * (r0l.length : Int)) ∧ Below u10.heap.size u10 wx)
                      case first =>
                        go_wp2_with fail
                        refine (L_heldDeepStepSG _ o46a (by omega) (by omega) (by omega)).mono ?_
                        rintro e v10a ⟨rfl, rfl⟩
                        go_wp2_with fail
                        go_meet
                        exact ⟨rfl, (by repeat (first | (with_reducible exact Below.refl _ _) | (with_reducible assumption) | ((with_reducible refine Below.alloc ?_ ?_ _); rotate_left; (first | omega | (simp <;> omega))) | ((with_reducible refine Below.setCell ?_ ?_ _); rotate_left; (first | omega | (simp <;> omega))) | (with_reducible refine below_drewN ?_ _) | (with_reducible refine Below.drew ?_) | ((with_reducible refine Below.step (by assumption) ?_ ?_); rotate_left; (first | omega | (simp <;> omega)))))⟩
                      case rest =>
                        obtain ⟨u11, rfl⟩ : ∃ u11, u11 = wc := ⟨_, rfl⟩
                        obtain ⟨rfl, hb⟩ := hcut
                        replace hB := Below.step hb hB hB.size
                        replace hS := Below.step hb hS hS.size
                        replace o35a := OwnS.step hb o35a
                        replace o46a := OwnS.step hb o46a
                        clear hb
                        have t10 : ¬ (1 : Int) + 2 * (r0l.length : Int) < 0 := by omega
                        go_upto_region 24 with fail
                        go_cut [10] (fun s10 wx => ∃ A1110a c1110a, s10 = (.slice A1110a r0l.length c1110a) ∧ OwnS wx 2 A1110a r0l.length c1110a 161 (rDeepStep r0l) ∧ (∀ x, x ∈ gOf A1110a → u11.heap.size ≤ x) ∧ Below u11.heap.size u11 wx)
                        case first =>
                          go_wp2_with fail
                          refine (L_toFragmentSM (l := y0l) _ by0l (RS.step (by repeat (first | (with_reducible exact Below.refl _ _) | (with_reducible assumption) | ((with_reducible refine Below.alloc ?_ ?_ _); rotate_left; (first | omega | (simp <;> omega))) | ((with_reducible refine Below.setCell ?_ ?_ _); rotate_left; (first | omega | (simp <;> omega))) | (with_reducible refine below_drewN ?_ _) | (with_reducible refine Below.drew ?_) | ((with_reducible refine Below.step (by assumption) ?_ ?_); rotate_left; (first | omega | (simp <;> omega))))) (RS.step hS qh0a))).mono ?_
                          rintro e v11a ⟨Tv11aa, kv11aa, rfl, ov11aa, gev11aa, hbv11a⟩
                          have hzv11a := hbv11a.size; (try simp at hzv11a)
                          go_wp2_with fail
                          refine (HI.out _ _ _ (RS.step (by repeat (first | (with_reducible exact Below.refl _ _) | (with_reducible assumption) | ((with_reducible refine Below.alloc ?_ ?_ _); rotate_left; (first | omega | (simp <;> omega))) | ((with_reducible refine Below.setCell ?_ ?_ _); rotate_left; (first | omega | (simp <;> omega))) | (with_reducible refine below_drewN ?_ _) | (with_reducible refine Below.drew ?_) | ((with_reducible refine Below.step (by assumption) ?_ ?_); rotate_left; (first | omega | (simp <;> omega))))) (OwnS.rs ov11aa))).mono ?_
                          rintro e v11b ⟨Tv11ba, kv11ba, rfl, ov11ba, gev11ba, hbv11b⟩
                          have hzv11b := hbv11b.size; (try simp at hzv11b)
                          go_wp2_with fail
                          go_meet
                          exact ⟨Tv11ba, kv11ba, rfl, (by repeat (first | (with_reducible exact ov11ba) | ((with_reducible refine OwnS.far ?_ (fun x hx => ?_) _); rotate_left; (have h1 := gev11ba x hx; have h2 := OwnS.lt ov11ba x hx; (try simp at h1); first | omega | (simp <;> omega))) | (with_reducible refine OwnS.alloc ?_ _) | (with_reducible refine OwnS.drewN ?_ _) | (with_reducible refine OwnS.drew ?_) | (with_reducible refine OwnS.step (by assumption) ?_))), (fun x hx => by have h1 := gev11ba x hx; (try simp at h1); first | omega | (simp <;> omega)), (by repeat (first | (with_reducible exact Below.refl _ _) | (with_reducible assumption) | ((with_reducible refine Below.alloc ?_ ?_ _); rotate_left; (first | omega | (simp <;> omega))) | ((with_reducible refine Below.setCell ?_ ?_ _); rotate_left; (first | omega | (simp <;> omega))) | (with_reducible refine below_drewN ?_ _) | (with_reducible refine Below.drew ?_) | ((with_reducible refine Below.step (by assumption) ?_ ?_); rotate_left; (first | omega | (simp <;> omega)))))⟩
                        case rest =>
                          obtain ⟨u12, rfl⟩ : ∃ u12, u12 = wc := ⟨_, rfl⟩
                          obtain ⟨A1110a, c1110a, rfl, o1110a, ge1110a, hb⟩ := hcut
                          have lto35a11 := OwnS.lt o35a
                          have lto46a11 := OwnS.lt o46a
                          replace hB := Below.step hb hB hB.size
                          have hSs := hS.size
                          replace hS := Below.step hb hS hS.size
                          replace o35a := OwnS.step hb o35a
                          replace o46a := OwnS.step hb o46a
                          clear hb
                          go_upto_region 25 with fail
                          go_cut [60] (fun sd wx => sd = .bool false ∧ Below u12.heap.size u12 wx)
                          case first =>
                            go_wp2_with fail
                            refine (L_eqDeepStepS _ (RS.step (by repeat (first | (with_reducible exact Below.refl _ _) | (with_reducible assumption) | ((with_reducible refine Below.alloc ?_ ?_ _); rotate_left; (first | omega | (simp <;> omega))) | ((with_reducible refine Below.setCell ?_ ?_ _); rotate_left; (first | omega | (simp <;> omega))) | (with_reducible refine below_drewN ?_ _) | (with_reducible refine Below.drew ?_) | ((with_reducible refine Below.step (by assumption) ?_ ?_); rotate_left; (first | omega | (simp <;> omega))))) (OwnS.rs o1110a)) (RS.step (by repeat (first | (with_reducible exact Below.refl _ _) | (with_reducible assumption) | ((with_reducible refine Below.alloc ?_ ?_ _); rotate_left; (first | omega | (simp <;> omega))) | ((with_reducible refine Below.setCell ?_ ?_ _); rotate_left; (first | omega | (simp <;> omega))) | (with_reducible refine below_drewN ?_ _) | (with_reducible refine Below.drew ?_) | ((with_reducible refine Below.step (by assumption) ?_ ?_); rotate_left; (first | omega | (simp <;> omega))))) (RS.step hS o24a))).mono ?_
                            rintro e v12a ⟨rfl, hbv12a⟩
                            have hzv12a := hbv12a.size; (try simp at hzv12a)
                            go_wp2_with fail
                            go_meet
                            exact ⟨rfl, (by repeat (first | (with_reducible exact Below.refl _ _) | (with_reducible assumption) | ((with_reducible refine Below.alloc ?_ ?_ _); rotate_left; (first | omega | (simp <;> omega))) | ((with_reducible refine Below.setCell ?_ ?_ _); rotate_left; (first | omega | (simp <;> omega))) | (with_reducible refine below_drewN ?_ _) | (with_reducible refine Below.drew ?_) | ((with_reducible refine Below.step (by assumption) ?_ ?_); rotate_left; (first | omega | (simp <;> omega)))))⟩
                          case rest =>
                            obtain ⟨u13, rfl⟩ : ∃ u13, u13 = wc := ⟨_, rfl⟩
                            obtain ⟨rfl, hb⟩ := hcut
                            replace hB := Below.step hb hB hB.size
                            replace hS := Below.step hb hS hS.size
                            replace o35a := OwnS.step hb o35a
                            replace o46a := OwnS.step hb o46a
                            replace o1110a := OwnS.step hb o1110a
                            clear hb
                            go_upto_region 28 with fail
                            go_cut [9] (fun sd wx => sd = .int .i64 ((1 : Int) + 2 * (r0l.length : Int)) ∧ Below u13.heap.size u13 wx)
                            case first =>
                              go_wp2_with fail
                              refine (L_heldDeepStepSG _ o46a (by omega) (by omega) (by omega)).mono ?_
                              rintro e v13a ⟨rfl, rfl⟩
                              go_wp2_with fail
                              go_meet
                              exact ⟨rfl, (by repeat (first | (with_reducible exact Below.refl _ _) | (with_reducible assumption) | ((with_reducible refine Below.alloc ?_ ?_ _); rotate_left; (first | omega | (simp <;> omega))) | ((with_reducible refine Below.setCell ?_ ?_ _); rotate_left; (first | omega | (simp <;> omega))) | (with_reducible refine below_drewN ?_ _) | (with_reducible refine Below.drew ?_) | ((with_reducible refine Below.step (by assumption) ?_ ?_); rotate_left; (first | omega | (simp <;> omega)))))⟩
                            case rest =>
                              obtain ⟨u14, rfl⟩ : ∃ u14, u14 = wc := ⟨_, rfl⟩
                              obtain ⟨rfl, hb⟩ := hcut
                              replace hB := Below.step hb hB hB.size
                              replace hS := Below.step hb hS hS.size
                              replace o35a := OwnS.step hb o35a
                              replace o46a := OwnS.step hb o46a
                              replace o1110a := OwnS.step hb o1110a
                              clear hb
                              have t13 : ¬ (1 : Int) + 2 * (r0l.length : Int) < 0 := by omega
                              go_wp2
                              go_ret
                              exact ⟨rfl, hB⟩
theorem L_ExDeepOf (y0l : List EFragment) (A0a : Option Addr) (p0a : Nat) (w : World)  (h0a : RS w 5 A0a y0l.length p0a (rFragment y0l)) :
    Calls Try.prog 10 #[(.slice A0a y0l.length p0a)] w fun e w' => e = .returned (.bool true) ∧ Below w.heap.size w w' := by
  have hl := deepF_len y0l
  exact L_ExDeepOf1 y0l A0a p0a (deepF y0l) w h0a (by omega) (Lib.hid fun hm A p wx a1 => S_DeepOf wx hm a1) (Lib.hid fun hm A p wx a1 => I_DeepOf wx hm a1)
theorem FnExactDeepOf_walk : LawWalk 10 [87] := by
  intro H enc W base args ds ps hA hval hlt
  obtain ⟨v0, rfl, a0⟩ := args1 hA hval
  obtain ⟨A0a, p0a, y0l, rfl, h0a⟩ := a0.fragmentS
  exact L_ExDeepOf y0l A0a p0a W h0a
end Go.Proofs.Ythfnldjldfkmnaa
