/- MADE BY PROGRAM (genlaw.py). The law FnExactParseRecord. -/
import Derived.Test.YtlepnjahpmlccaaDoorRecI
import Derived.Test.YtlepnjahpmlccaaDoorMade
import Derived.Test.YtlepnjahpmlccaaDoorLawV
import Derived.Deep.RegionHeld3
import Derived.Deep.DeepCutAuto
namespace Go.Proofs.YtlepnjahpmlccaaDoor
open Go.ChangeShapes Go.WideShapes Go.ChangeAt Go.RowKit Go.Lib
set_option linter.unusedVariables false
set_option maxRecDepth 100000
set_option maxHeartbeats 8000000 in
theorem L_ExParseRecord1 (y0 : List UInt8) (r0a : Int) (r0lb : List Int) (r1 : Bool) (w : World)  (br0lb : r0lb.length ≤ 1048576) (HS : Hid (y0.length ≤ 1048576 → ∀ (wx : World), Below w.heap.size w wx → Calls Tryd.prog 19 #[(str y0)] wx (MadeLogged (fun s0 => .tuple #[(vLogged r0a s0), (.bool r1)]) r0lb.length (ints r0lb) wx))) (HI : Hid (y0.length ≤ 1048576 → ∀ (wx : World), Below w.heap.size w wx → Calls Tryd.prog 20 #[(str y0)] wx (MadeLogged (fun s0 => .tuple #[(vLogged r0a s0), (.bool r1)]) r0lb.length (ints r0lb) wx))) :
    Calls Tryd.prog 6 #[(str y0)] w fun e w' => e = .returned (.bool true) ∧ Below w.heap.size w w' := by
  go_enter Tryd.func6, Tryd.ntmps6
  rcases Nat.lt_or_ge 1048576 y0.length with hbig | by0
  · have hbig' : (1048576 : Int) < (y0.length : Int) := by omega
    go_wp2
    go_ret
    exact ⟨rfl, (by repeat (first | (with_reducible exact Below.refl _ _) | (with_reducible assumption) | ((with_reducible refine Below.alloc ?_ ?_ _); rotate_left; (first | omega | (simp <;> omega))) | ((with_reducible refine Below.setCell ?_ ?_ _); rotate_left; (first | omega | (simp <;> omega))) | (with_reducible refine below_drewN ?_ _) | (with_reducible refine Below.drew ?_) | ((with_reducible refine Below.step (by assumption) ?_ ?_); rotate_left; (first | omega | (simp <;> omega)))))⟩
  have ny0 : ¬ (1048576 : Int) < (y0.length : Int) := by omega
  have HS := Lib.hid (HS.out by0)
  have HI := Lib.hid (HI.out by0)
  go_upto_region 3 with fail
  have hB : Below w.heap.size w w := (by repeat (first | (with_reducible exact Below.refl _ _) | (with_reducible assumption) | ((with_reducible refine Below.alloc ?_ ?_ _); rotate_left; (first | omega | (simp <;> omega))) | ((with_reducible refine Below.setCell ?_ ?_ _); rotate_left; (first | omega | (simp <;> omega))) | (with_reducible refine below_drewN ?_ _) | (with_reducible refine Below.drew ?_) | ((with_reducible refine Below.step (by assumption) ?_ ?_); rotate_left; (first | omega | (simp <;> omega)))))
  go_upto_region 3 with fail
  go_cut [3, 4] (fun s3 s4 wx => ∃ A13a c13a B13, s3 = .pointer (some ⟨B13, 0, none⟩) ∧ Box wx B13 [.int .i64 r0a, (.slice A13a r0lb.length c13a)] ∧ w.heap.size ≤ B13 ∧ OwnS wx 1 A13a r0lb.length c13a 3 (ints r0lb) ∧ (∀ x, x ∈ gOf A13a → w.heap.size ≤ x) ∧ (∀ x, x ∈ gOf A13a → x ≠ B13) ∧ s4 = (.bool r1) ∧ Below w.heap.size w wx)
  case first =>
    go_wp2_with fail
    refine (HS.out  _  (by repeat (first | (with_reducible exact Below.refl _ _) | (with_reducible assumption) | ((with_reducible refine Below.alloc ?_ ?_ _); rotate_left; (first | omega | (simp <;> omega))) | ((with_reducible refine Below.setCell ?_ ?_ _); rotate_left; (first | omega | (simp <;> omega))) | (with_reducible refine below_drewN ?_ _) | (with_reducible refine Below.drew ?_) | ((with_reducible refine Below.step (by assumption) ?_ ?_); rotate_left; (first | omega | (simp <;> omega)))))).mono ?_
    rintro e v1a ⟨Tv1aa, kv1aa, rfl, ov1aa, gev1aa, hbv1a⟩
    have hzv1a := hbv1a.size; (try simp at hzv1a)
    go_wp2_with fail
    go_meet
    exact ⟨Tv1aa, kv1aa, _, rfl, Box.mk2 (by first | omega | (simp <;> omega)) (by go_simp) (by go_simp), (by first | omega | (simp <;> omega)), (by repeat (first | (with_reducible exact ov1aa) | ((with_reducible refine OwnS.far ?_ (fun x hx => ?_) _); rotate_left; (have h1 := gev1aa x hx; have h2 := OwnS.lt ov1aa x hx; (try simp at h1); first | omega | (simp <;> omega))) | (with_reducible refine OwnS.alloc ?_ _) | (with_reducible refine OwnS.drewN ?_ _) | (with_reducible refine OwnS.drew ?_) | (with_reducible refine OwnS.step (by assumption) ?_))), (fun x hx => by have h1 := gev1aa x hx; (try simp at h1); first | omega | (simp <;> omega)), (fun x hx => by have h1 := gev1aa x hx; have h2 := OwnS.lt ov1aa x hx; (try simp at h1); first | omega | (simp <;> omega)), rfl, (by repeat (first | (with_reducible exact Below.refl _ _) | (with_reducible assumption) | ((with_reducible refine Below.alloc ?_ ?_ _); rotate_left; (first | omega | (simp <;> omega))) | ((with_reducible refine Below.setCell ?_ ?_ _); rotate_left; (first | omega | (simp <;> omega))) | (with_reducible refine below_drewN ?_ _) | (with_reducible refine Below.drew ?_) | ((with_reducible refine Below.step (by assumption) ?_ ?_); rotate_left; (first | omega | (simp <;> omega)))))⟩
  case rest =>
    obtain ⟨u1, rfl⟩ : ∃ u1, u1 = wc := ⟨_, rfl⟩
    obtain ⟨A13a, c13a, B13, rfl, bx13, bg13, o13a, ge13a, ne130, rfl, hb⟩ := hcut
    replace hB := Below.step hb hB hB.size
    replace o13a := OwnS.rs o13a
    have hS := Below.refl u1.heap.size u1
    have hBS := hB.size
    go_upto_region 4 with fail
    go_cut [5, 6] (fun s5 s6 wx => ∃ A25a c25a B25, s5 = .pointer (some ⟨B25, 0, none⟩) ∧ Box wx B25 [.int .i64 r0a, (.slice A25a r0lb.length c25a)] ∧ u1.heap.size ≤ B25 ∧ OwnS wx 1 A25a r0lb.length c25a 3 (ints r0lb) ∧ (∀ x, x ∈ gOf A25a → u1.heap.size ≤ x) ∧ (∀ x, x ∈ gOf A25a → x ≠ B25) ∧ s6 = (.bool r1) ∧ Below u1.heap.size u1 wx)
    case first =>
      go_wp2_with fail
      refine (HI.out  _  (by repeat (first | (with_reducible exact Below.refl _ _) | (with_reducible assumption) | ((with_reducible refine Below.alloc ?_ ?_ _); rotate_left; (first | omega | (simp <;> omega))) | ((with_reducible refine Below.setCell ?_ ?_ _); rotate_left; (first | omega | (simp <;> omega))) | (with_reducible refine below_drewN ?_ _) | (with_reducible refine Below.drew ?_) | ((with_reducible refine Below.step (by assumption) ?_ ?_); rotate_left; (first | omega | (simp <;> omega)))))).mono ?_
      rintro e v2a ⟨Tv2aa, kv2aa, rfl, ov2aa, gev2aa, hbv2a⟩
      have hzv2a := hbv2a.size; (try simp at hzv2a)
      go_wp2_with fail
      go_meet
      exact ⟨Tv2aa, kv2aa, _, rfl, Box.mk2 (by first | omega | (simp <;> omega)) (by go_simp) (by go_simp), (by first | omega | (simp <;> omega)), (by repeat (first | (with_reducible exact ov2aa) | ((with_reducible refine OwnS.far ?_ (fun x hx => ?_) _); rotate_left; (have h1 := gev2aa x hx; have h2 := OwnS.lt ov2aa x hx; (try simp at h1); first | omega | (simp <;> omega))) | (with_reducible refine OwnS.alloc ?_ _) | (with_reducible refine OwnS.drewN ?_ _) | (with_reducible refine OwnS.drew ?_) | (with_reducible refine OwnS.step (by assumption) ?_))), (fun x hx => by have h1 := gev2aa x hx; (try simp at h1); first | omega | (simp <;> omega)), (fun x hx => by have h1 := gev2aa x hx; have h2 := OwnS.lt ov2aa x hx; (try simp at h1); first | omega | (simp <;> omega)), rfl, (by repeat (first | (with_reducible exact Below.refl _ _) | (with_reducible assumption) | ((with_reducible refine Below.alloc ?_ ?_ _); rotate_left; (first | omega | (simp <;> omega))) | ((with_reducible refine Below.setCell ?_ ?_ _); rotate_left; (first | omega | (simp <;> omega))) | (with_reducible refine below_drewN ?_ _) | (with_reducible refine Below.drew ?_) | ((with_reducible refine Below.step (by assumption) ?_ ?_); rotate_left; (first | omega | (simp <;> omega)))))⟩
    case rest =>
      obtain ⟨u2, rfl⟩ : ∃ u2, u2 = wc := ⟨_, rfl⟩
      obtain ⟨A25a, c25a, B25, rfl, bx25, bg25, o25a, ge25a, ne250, rfl, hb⟩ := hcut
      replace hB := Below.step hb hB hB.size
      have hSs := hS.size
      replace hS := Below.step hb hS hS.size
      clear hb
      go_upto_region 5 with fail
      go_cut [32] (fun sd wx => sd = .bool false ∧ Below u2.heap.size u2 wx)
      case first =>
        obtain ⟨zb3a, cb3a0, cb3a1⟩ := bx25.open2
        obtain ⟨zb3b, cb3b0, cb3b1⟩ := (Box.step hS bx13).open2
        go_wp2_with fail
        refine (L_eqLogged _ (RS.step (by repeat (first | (with_reducible exact Below.refl _ _) | (with_reducible assumption) | ((with_reducible refine Below.alloc ?_ ?_ _); rotate_left; (first | omega | (simp <;> omega))) | ((with_reducible refine Below.setCell ?_ ?_ _); rotate_left; (first | omega | (simp <;> omega))) | (with_reducible refine below_drewN ?_ _) | (with_reducible refine Below.drew ?_) | ((with_reducible refine Below.step (by assumption) ?_ ?_); rotate_left; (first | omega | (simp <;> omega))))) (OwnS.rs o25a)) (RS.step (by repeat (first | (with_reducible exact Below.refl _ _) | (with_reducible assumption) | ((with_reducible refine Below.alloc ?_ ?_ _); rotate_left; (first | omega | (simp <;> omega))) | ((with_reducible refine Below.setCell ?_ ?_ _); rotate_left; (first | omega | (simp <;> omega))) | (with_reducible refine below_drewN ?_ _) | (with_reducible refine Below.drew ?_) | ((with_reducible refine Below.step (by assumption) ?_ ?_); rotate_left; (first | omega | (simp <;> omega))))) (RS.step hS o13a))).mono ?_
        rintro e v3a ⟨rfl, hbv3a⟩
        have hzv3a := hbv3a.size; (try simp at hzv3a)
        have cv3aa := fun o => hbv3a.cell (p := ⟨B25, o, none⟩) (by first | omega | (simp <;> omega))
        have zv3aa : B25 < v3a.heap.size := (by first | omega | (simp <;> omega))
        have ev3aa : ¬ B25 = v3a.heap.size := (by omega)
        have gv3aa : ¬ v3a.heap.size = B25 := (by omega)
        have cv3ab := fun o => hbv3a.cell (p := ⟨B13, o, none⟩) (by first | omega | (simp <;> omega))
        have zv3ab : B13 < v3a.heap.size := (by first | omega | (simp <;> omega))
        have ev3ab : ¬ B13 = v3a.heap.size := (by omega)
        have gv3ab : ¬ v3a.heap.size = B13 := (by omega)
        go_wp2_with fail
        go_meet
        exact ⟨rfl, (by repeat (first | (with_reducible exact Below.refl _ _) | (with_reducible assumption) | ((with_reducible refine Below.alloc ?_ ?_ _); rotate_left; (first | omega | (simp <;> omega))) | ((with_reducible refine Below.setCell ?_ ?_ _); rotate_left; (first | omega | (simp <;> omega))) | (with_reducible refine below_drewN ?_ _) | (with_reducible refine Below.drew ?_) | ((with_reducible refine Below.step (by assumption) ?_ ?_); rotate_left; (first | omega | (simp <;> omega)))))⟩
      case rest =>
        obtain ⟨u3, rfl⟩ : ∃ u3, u3 = wc := ⟨_, rfl⟩
        obtain ⟨rfl, hb⟩ := hcut
        replace hB := Below.step hb hB hB.size
        replace hS := Below.step hb hS hS.size
        replace bx25 := Box.step hb bx25
        replace o25a := OwnS.step hb o25a
        clear hb
        go_upto_region 8 with fail
        go_cut [7] (fun sd wx => sd = .int .i64 ((1 : Int) + (r0lb.length : Int)) ∧ OwnS wx 1 A25a r0lb.length c25a 3 (ints (upFrom (1 : Int) r0lb.length)) ∧ Only u3.heap.size (gOf A25a) u3 wx)
        case first =>
          obtain ⟨zb4a, cb4a0, cb4a1⟩ := bx25.open2
          go_wp2_with fail
          refine (L_markLoggedG _ o25a (by omega) (by omega) (by omega)).mono ?_
          rintro e v4a ⟨rfl, ov4aa, hOv4a⟩
          have hzv4a := hOv4a.size
          go_wp2_with fail
          go_meet
          exact ⟨rfl, ov4aa, hOv4a⟩
        case rest =>
          obtain ⟨u4, rfl⟩ : ∃ u4, u4 = wc := ⟨_, rfl⟩
          obtain ⟨rfl, nw0, hO⟩ := hcut
          have hG : ∀ y, y ∈ gOf A25a → u1.heap.size ≤ y := ge25a
          replace hB := hB.trans (hO.below hB.size (fun y hy => by have := hG y hy; omega))
          replace hS := hS.trans (hO.below hS.size (fun y hy => by have := hG y hy; omega))
          replace bx25 := Box.only hO bx25 bx25.lt (fun hy => ne250 _ hy rfl)
          clear o25a
          have o25a := nw0
          clear nw0
          clear hO hG
          have t4 : ¬ (1 : Int) + (r0lb.length : Int) < 0 := by omega
          go_upto_region 10 with fail
          go_cut [8] (fun sd wx => sd = .int .i64 ((1 : Int) + (r0lb.length : Int)) ∧ Below u4.heap.size u4 wx)
          case first =>
            obtain ⟨zb5a, cb5a0, cb5a1⟩ := bx25.open2
            go_wp2_with fail
            refine (L_heldLoggedG _ o25a (by omega) (by omega) (by omega)).mono ?_
            rintro e v5a ⟨rfl, hbv5a⟩
            have hzv5a := hbv5a.size; (try simp at hzv5a)
            have cv5aa := fun o => hbv5a.cell (p := ⟨B25, o, none⟩) (by first | omega | (simp <;> omega))
            have zv5aa : B25 < v5a.heap.size := (by first | omega | (simp <;> omega))
            have ev5aa : ¬ B25 = v5a.heap.size := (by omega)
            have gv5aa : ¬ v5a.heap.size = B25 := (by omega)
            go_wp2_with fail
            go_meet
            exact ⟨rfl, (by repeat (first | (with_reducible exact Below.refl _ _) | (with_reducible assumption) | ((with_reducible refine Below.alloc ?_ ?_ _); rotate_left; (first | omega | (simp <;> omega))) | ((with_reducible refine Below.setCell ?_ ?_ _); rotate_left; (first | omega | (simp <;> omega))) | (with_reducible refine below_drewN ?_ _) | (with_reducible refine Below.drew ?_) | ((with_reducible refine Below.step (by assumption) ?_ ?_); rotate_left; (first | omega | (simp <;> omega)))))⟩
          case rest =>
            obtain ⟨u5, rfl⟩ : ∃ u5, u5 = wc := ⟨_, rfl⟩
            obtain ⟨rfl, hb⟩ := hcut
            replace hB := Below.step hb hB hB.size
            replace hS := Below.step hb hS hS.size
            replace bx25 := Box.step hb bx25
            replace o25a := OwnS.step hb o25a
            clear hb
            have t5 : ¬ (1 : Int) + (r0lb.length : Int) < 0 := by omega
            go_upto_region 15 with fail
            go_cut [9, 10] (fun s9 s10 wx => ∃ A69a c69a B69, s9 = .pointer (some ⟨B69, 0, none⟩) ∧ Box wx B69 [.int .i64 r0a, (.slice A69a r0lb.length c69a)] ∧ u5.heap.size ≤ B69 ∧ OwnS wx 1 A69a r0lb.length c69a 3 (ints r0lb) ∧ (∀ x, x ∈ gOf A69a → u5.heap.size ≤ x) ∧ (∀ x, x ∈ gOf A69a → x ≠ B69) ∧ s10 = (.bool r1) ∧ Below u5.heap.size u5 wx)
            case first =>
              go_wp2_with fail
              refine (HI.out  _  (by repeat (first | (with_reducible exact Below.refl _ _) | (with_reducible assumption) | ((with_reducible refine Below.alloc ?_ ?_ _); rotate_left; (first | omega | (simp <;> omega))) | ((with_reducible refine Below.setCell ?_ ?_ _); rotate_left; (first | omega | (simp <;> omega))) | (with_reducible refine below_drewN ?_ _) | (with_reducible refine Below.drew ?_) | ((with_reducible refine Below.step (by assumption) ?_ ?_); rotate_left; (first | omega | (simp <;> omega)))))).mono ?_
              rintro e v6a ⟨Tv6aa, kv6aa, rfl, ov6aa, gev6aa, hbv6a⟩
              have hzv6a := hbv6a.size; (try simp at hzv6a)
              go_wp2_with fail
              go_meet
              exact ⟨Tv6aa, kv6aa, _, rfl, Box.mk2 (by first | omega | (simp <;> omega)) (by go_simp) (by go_simp), (by first | omega | (simp <;> omega)), (by repeat (first | (with_reducible exact ov6aa) | ((with_reducible refine OwnS.far ?_ (fun x hx => ?_) _); rotate_left; (have h1 := gev6aa x hx; have h2 := OwnS.lt ov6aa x hx; (try simp at h1); first | omega | (simp <;> omega))) | (with_reducible refine OwnS.alloc ?_ _) | (with_reducible refine OwnS.drewN ?_ _) | (with_reducible refine OwnS.drew ?_) | (with_reducible refine OwnS.step (by assumption) ?_))), (fun x hx => by have h1 := gev6aa x hx; (try simp at h1); first | omega | (simp <;> omega)), (fun x hx => by have h1 := gev6aa x hx; have h2 := OwnS.lt ov6aa x hx; (try simp at h1); first | omega | (simp <;> omega)), rfl, (by repeat (first | (with_reducible exact Below.refl _ _) | (with_reducible assumption) | ((with_reducible refine Below.alloc ?_ ?_ _); rotate_left; (first | omega | (simp <;> omega))) | ((with_reducible refine Below.setCell ?_ ?_ _); rotate_left; (first | omega | (simp <;> omega))) | (with_reducible refine below_drewN ?_ _) | (with_reducible refine Below.drew ?_) | ((with_reducible refine Below.step (by assumption) ?_ ?_); rotate_left; (first | omega | (simp <;> omega)))))⟩
            case rest =>
              obtain ⟨u6, rfl⟩ : ∃ u6, u6 = wc := ⟨_, rfl⟩
              obtain ⟨A69a, c69a, B69, rfl, bx69, bg69, o69a, ge69a, ne690, rfl, hb⟩ := hcut
              have lto25a6 := OwnS.lt o25a
              have lbbx256 := bx25.lt
              replace hB := Below.step hb hB hB.size
              have hSs := hS.size
              replace hS := Below.step hb hS hS.size
              replace bx25 := Box.step hb bx25
              replace o25a := OwnS.step hb o25a
              clear hb
              go_upto_region 16 with fail
              go_cut [57] (fun sd wx => sd = .bool false ∧ Below u6.heap.size u6 wx)
              case first =>
                obtain ⟨zb7a, cb7a0, cb7a1⟩ := bx69.open2
                obtain ⟨zb7b, cb7b0, cb7b1⟩ := (Box.step hS bx13).open2
                go_wp2_with fail
                refine (L_eqLogged _ (RS.step (by repeat (first | (with_reducible exact Below.refl _ _) | (with_reducible assumption) | ((with_reducible refine Below.alloc ?_ ?_ _); rotate_left; (first | omega | (simp <;> omega))) | ((with_reducible refine Below.setCell ?_ ?_ _); rotate_left; (first | omega | (simp <;> omega))) | (with_reducible refine below_drewN ?_ _) | (with_reducible refine Below.drew ?_) | ((with_reducible refine Below.step (by assumption) ?_ ?_); rotate_left; (first | omega | (simp <;> omega))))) (OwnS.rs o69a)) (RS.step (by repeat (first | (with_reducible exact Below.refl _ _) | (with_reducible assumption) | ((with_reducible refine Below.alloc ?_ ?_ _); rotate_left; (first | omega | (simp <;> omega))) | ((with_reducible refine Below.setCell ?_ ?_ _); rotate_left; (first | omega | (simp <;> omega))) | (with_reducible refine below_drewN ?_ _) | (with_reducible refine Below.drew ?_) | ((with_reducible refine Below.step (by assumption) ?_ ?_); rotate_left; (first | omega | (simp <;> omega))))) (RS.step hS o13a))).mono ?_
                rintro e v7a ⟨rfl, hbv7a⟩
                have hzv7a := hbv7a.size; (try simp at hzv7a)
                have cv7aa := fun o => hbv7a.cell (p := ⟨B69, o, none⟩) (by first | omega | (simp <;> omega))
                have zv7aa : B69 < v7a.heap.size := (by first | omega | (simp <;> omega))
                have ev7aa : ¬ B69 = v7a.heap.size := (by omega)
                have gv7aa : ¬ v7a.heap.size = B69 := (by omega)
                have cv7ab := fun o => hbv7a.cell (p := ⟨B13, o, none⟩) (by first | omega | (simp <;> omega))
                have zv7ab : B13 < v7a.heap.size := (by first | omega | (simp <;> omega))
                have ev7ab : ¬ B13 = v7a.heap.size := (by omega)
                have gv7ab : ¬ v7a.heap.size = B13 := (by omega)
                go_wp2_with fail
                go_meet
                exact ⟨rfl, (by repeat (first | (with_reducible exact Below.refl _ _) | (with_reducible assumption) | ((with_reducible refine Below.alloc ?_ ?_ _); rotate_left; (first | omega | (simp <;> omega))) | ((with_reducible refine Below.setCell ?_ ?_ _); rotate_left; (first | omega | (simp <;> omega))) | (with_reducible refine below_drewN ?_ _) | (with_reducible refine Below.drew ?_) | ((with_reducible refine Below.step (by assumption) ?_ ?_); rotate_left; (first | omega | (simp <;> omega)))))⟩
              case rest =>
                obtain ⟨u7, rfl⟩ : ∃ u7, u7 = wc := ⟨_, rfl⟩
                obtain ⟨rfl, hb⟩ := hcut
                replace hB := Below.step hb hB hB.size
                replace hS := Below.step hb hS hS.size
                replace bx25 := Box.step hb bx25
                replace o25a := OwnS.step hb o25a
                replace bx69 := Box.step hb bx69
                replace o69a := OwnS.step hb o69a
                clear hb
                go_upto_region 19 with fail
                go_cut [8] (fun sd wx => sd = .int .i64 ((1 : Int) + (r0lb.length : Int)) ∧ Below u7.heap.size u7 wx)
                case first =>
                  obtain ⟨zb8a, cb8a0, cb8a1⟩ := bx25.open2
                  go_wp2_with fail
                  refine (L_heldLoggedG _ o25a (by omega) (by omega) (by omega)).mono ?_
                  rintro e v8a ⟨rfl, hbv8a⟩
                  have hzv8a := hbv8a.size; (try simp at hzv8a)
                  have cv8aa := fun o => hbv8a.cell (p := ⟨B25, o, none⟩) (by first | omega | (simp <;> omega))
                  have zv8aa : B25 < v8a.heap.size := (by first | omega | (simp <;> omega))
                  have ev8aa : ¬ B25 = v8a.heap.size := (by omega)
                  have gv8aa : ¬ v8a.heap.size = B25 := (by omega)
                  go_wp2_with fail
                  go_meet
                  exact ⟨rfl, (by repeat (first | (with_reducible exact Below.refl _ _) | (with_reducible assumption) | ((with_reducible refine Below.alloc ?_ ?_ _); rotate_left; (first | omega | (simp <;> omega))) | ((with_reducible refine Below.setCell ?_ ?_ _); rotate_left; (first | omega | (simp <;> omega))) | (with_reducible refine below_drewN ?_ _) | (with_reducible refine Below.drew ?_) | ((with_reducible refine Below.step (by assumption) ?_ ?_); rotate_left; (first | omega | (simp <;> omega)))))⟩
                case rest =>
                  obtain ⟨u8, rfl⟩ : ∃ u8, u8 = wc := ⟨_, rfl⟩
                  obtain ⟨rfl, hb⟩ := hcut
                  replace hB := Below.step hb hB hB.size
                  replace hS := Below.step hb hS hS.size
                  replace bx25 := Box.step hb bx25
                  replace o25a := OwnS.step hb o25a
                  replace bx69 := Box.step hb bx69
                  replace o69a := OwnS.step hb o69a
                  clear hb
                  have t8 : ¬ (1 : Int) + (r0lb.length : Int) < 0 := by omega
                  go_wp2
                  go_ret
                  exact ⟨rfl, hB⟩
theorem parseR_valid {t : List UInt8} {i : Int} {l : List Int} (h : parseR t = some (i, l)) : validR i l = true := by
  unfold parseR at h
  split at h
  · rename_i hx
    have hc := hx.choose_spec
    rw [Option.some.inj h] at hc
    exact hc.1
  · cases h
theorem L_ExParseRecord {tp : TypeId} {p : Value} (y0 : List UInt8) (w : World) (he : Env w) (hd : Dam tp p w) :
    Calls Tryd.prog 6 #[(str y0)] w fun e w' => e = .returned (.bool true) ∧ Below w.heap.size w w' := by
  cases hr : parseR y0 with
  | none =>
    refine L_ExParseRecord1 y0 0 [] false w (by simp) (Lib.hid fun h wx hb => ?_) (Lib.hid fun h wx hb => ?_)
    · have h0 := S_ParseRecord y0 wx h
      rw [hr] at h0; exact h0
    · have h0 := I_ParseRecord y0 wx h (he.step hb) (hd.step hb)
      rw [hr] at h0; exact h0
  | some v =>
    obtain ⟨i, l⟩ := v
    have hv := validR_all (parseR_valid hr)
    refine L_ExParseRecord1 y0 i l true w (by omega) (Lib.hid fun h wx hb => ?_) (Lib.hid fun h wx hb => ?_)
    · have h0 := S_ParseRecord y0 wx h
      rw [hr] at h0; exact h0
    · have h0 := I_ParseRecord y0 wx h (he.step hb) (hd.step hb)
      rw [hr] at h0; exact h0
theorem Dam.of_laid {W : World} {rest : List (String × DataW Unit)} {a b c d e : String × DataW Unit} (h : laidMet Tryd.prog (a :: b :: c :: d :: e :: ("loop.example/g00809/impl.errDamaged", Rows.laid_loop_example_g00809_impl_errDamaged) :: rest) W) : ∃ tp p, Dam tp p W := by
  obtain ⟨x, _, h1, _⟩ := laid_sentinel (h.tail.tail.tail.tail.tail) (show Tryd.prog.globalNamed "loop.example/g00809/impl.errDamaged" = some 0 by kernel_rfl) (show (Tryd.prog.globals[0]?).map (·.type) = some 70 by kernel_rfl) Tryd.underlying70 row_es Tryd.underlying127 Tryd.underlying129 rfl rfl Tryd.underlying9 (by kernel_rfl) (by kernel_rfl)
  have h2 := World.var?_cell (show Tryd.prog.globalNamed "loop.example/g00809/impl.errDamaged" = some 0 by kernel_rfl) h1 0
  have h3 : W.cell? ⟨0, 0, none⟩ = some (.iface 127 (.pointer (some x))) := by simpa using h2
  exact ⟨_, _, h3⟩
theorem Dam.var_of_laid {W : World} {rest : List (String × DataW Unit)} {a b c d e : String × DataW Unit} (h : laidMet Tryd.prog (a :: b :: c :: d :: e :: ("loop.example/g00809/impl.errDamaged", Rows.laid_loop_example_g00809_impl_errDamaged) :: rest) W) : ∃ (tp : TypeId) (p : Value), ∃ x : Value, IsIface x ∧ W.var? Tryd.prog "loop.example/g00809/impl.errDamaged" = some #[x] := by
  obtain ⟨x, _, h1, _⟩ := laid_sentinel (h.tail.tail.tail.tail.tail) (show Tryd.prog.globalNamed "loop.example/g00809/impl.errDamaged" = some 0 by kernel_rfl) (show (Tryd.prog.globals[0]?).map (·.type) = some 70 by kernel_rfl) Tryd.underlying70 row_es Tryd.underlying127 Tryd.underlying129 rfl rfl Tryd.underlying9 (by kernel_rfl) (by kernel_rfl)
  exact ⟨0, .nilIface, .iface 127 (.pointer (some x)), (by simp [IsIface]), h1⟩
def fnExactParseRecordLaid : List (String × DataW Unit) := [("math/bits.deBruijn32tab", Rows.laid_math_bits_deBruijn32tab), ("math/bits.deBruijn64tab", Rows.laid_math_bits_deBruijn64tab), ("internal/strconv.uint64pow10", Rows.laid_internal_strconv_uint64pow10), ("strconv.ErrRange", Rows.laid_strconv_ErrRange), ("strconv.ErrSyntax", Rows.laid_strconv_ErrSyntax), ("loop.example/g00809/impl.errDamaged", Rows.laid_loop_example_g00809_impl_errDamaged)]
theorem FnExactParseRecord_walk : LawWalkD fnExactParseRecordLaid 6 [9] := by
  intro H enc W base args ds ps hA hval hlt hsz hL hsh
  obtain ⟨v0, rfl, a0⟩ := args1 hA hval
  obtain ⟨sy0, rfl, hsy0⟩ := a0.string Tryd.underlying9
  obtain ⟨tp, p, hd⟩ := Dam.of_laid hL
  exact L_ExParseRecord sy0.data.toList W (Env.of_laid hL hsh) hd
end Go.Proofs.YtlepnjahpmlccaaDoor
