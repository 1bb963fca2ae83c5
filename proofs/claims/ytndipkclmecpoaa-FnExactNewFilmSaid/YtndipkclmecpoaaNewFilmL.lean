/- MADE BY PROGRAM (genlaw.py). The law FnExactNewFilm. -/
import Derived.Test.YtndipkclmecpoaaNewFilm
import Derived.Test.YtndipkclmecpoaaMade
import Derived.Deep.RegionHeld3
import Derived.Deep.DeepCutAuto
namespace Go.Proofs.Ytndipkclmecpoaa
open Go.ChangeShapes Go.WideShapes Go.ChangeAt Go.RowKit
set_option linter.unusedVariables false
set_option maxRecDepth 100000
set_option maxHeartbeats 8000000 in
theorem L_ExNewFilm1 (y0a : Int) (y0b : Int) (y0c : Int) (y0d : Int) (y0e : Bool) (y0f : Int) (y0g : Int) (r0a r0b : Int) (r0lc : List Int) (r0ld : List Bool) (r1 : Bool) (w : World)  (br0lc : r0lc.length ≤ 1048576) (br0ld : r0ld.length ≤ 1048576) (HS : Hid (∀ (wx : World), Calls Try.prog 30 #[(.agg #[.int .i64 y0a, .int .i64 y0b, .int .i64 y0c, .int .i64 y0d, .bool y0e, .int .i64 y0f, .int .i64 y0g])] wx (MadeFilm (fun s0 s1 => .tuple #[(vFilm r0a r0b s0 s1), (.bool r1)]) r0lc.length (ints r0lc) r0ld.length (bools r0ld) wx))) (HI : Hid (∀ (wx : World), Calls Try.prog 32 #[(.agg #[.int .i64 y0a, .int .i64 y0b, .int .i64 y0c, .int .i64 y0d, .bool y0e, .int .i64 y0f, .int .i64 y0g])] wx (MadeFilm (fun s0 s1 => .tuple #[(vFilm r0a r0b s0 s1), (.bool r1)]) r0lc.length (ints r0lc) r0ld.length (bools r0ld) wx))) :
    Calls Try.prog 6 #[(.agg #[.int .i64 y0a, .int .i64 y0b, .int .i64 y0c, .int .i64 y0d, .bool y0e, .int .i64 y0f, .int .i64 y0g])] w fun e w' => e = .returned (.bool true) ∧ Below w.heap.size w w' := by
  go_enter Try.func6, Try.ntmps6
  go_upto_region 1 with fail
  have ba0 : Box (World.alloc w (.cells #[.int .i64 y0a, .int .i64 y0b, .int .i64 y0c, .int .i64 y0d, .bool y0e, .int .i64 y0f, .int .i64 y0g] 49)) (w.heap.size) [.int .i64 y0a, .int .i64 y0b, .int .i64 y0c, .int .i64 y0d, .bool y0e, .int .i64 y0f, .int .i64 y0g] := Box.of_own (t := 49) (by repeat (first | (exact Own.at_lit (by simp)) | (with_reducible refine Own.alloc ?_ _)))
  have hB : Below w.heap.size w (World.alloc w (.cells #[.int .i64 y0a, .int .i64 y0b, .int .i64 y0c, .int .i64 y0d, .bool y0e, .int .i64 y0f, .int .i64 y0g] 49)) := (by repeat (first | (with_reducible exact Below.refl _ _) | (with_reducible assumption) | ((with_reducible refine Below.alloc ?_ ?_ _); rotate_left; (first | omega | (simp <;> omega))) | ((with_reducible refine Below.setCell ?_ ?_ _); rotate_left; (first | omega | (simp <;> omega))) | (with_reducible refine below_drewN ?_ _) | (with_reducible refine Below.drew ?_) | ((with_reducible refine Below.step (by assumption) ?_ ?_); rotate_left; (first | omega | (simp <;> omega)))))
  go_upto_region 1 with fail
  go_cut [3, 4] (fun s3 s4 wx => ∃ A13a c13a A13b c13b B13, s3 = .pointer (some ⟨B13, 0, none⟩) ∧ Box wx B13 [.int .i64 r0a, .int .i64 r0b, (.slice A13a r0lc.length c13a), (.slice A13b r0ld.length c13b)] ∧ (World.alloc w (.cells #[.int .i64 y0a, .int .i64 y0b, .int .i64 y0c, .int .i64 y0d, .bool y0e, .int .i64 y0f, .int .i64 y0g] 49)).heap.size ≤ B13 ∧ OwnS wx 1 A13a r0lc.length c13a 3 (ints r0lc) ∧ (∀ x, x ∈ gOf A13a → (World.alloc w (.cells #[.int .i64 y0a, .int .i64 y0b, .int .i64 y0c, .int .i64 y0d, .bool y0e, .int .i64 y0f, .int .i64 y0g] 49)).heap.size ≤ x) ∧ (∀ x, x ∈ gOf A13a → x ≠ B13) ∧ OwnS wx 1 A13b r0ld.length c13b 4 (bools r0ld) ∧ (∀ x, x ∈ gOf A13b → (World.alloc w (.cells #[.int .i64 y0a, .int .i64 y0b, .int .i64 y0c, .int .i64 y0d, .bool y0e, .int .i64 y0f, .int .i64 y0g] 49)).heap.size ≤ x) ∧ (∀ x, x ∈ gOf A13b → x ≠ B13) ∧ (∀ x, x ∈ gOf A13a → x ∉ gOf A13b) ∧ s4 = (.bool r1) ∧ Below (World.alloc w (.cells #[.int .i64 y0a, .int .i64 y0b, .int .i64 y0c, .int .i64 y0d, .bool y0e, .int .i64 y0f, .int .i64 y0g] 49)).heap.size (World.alloc w (.cells #[.int .i64 y0a, .int .i64 y0b, .int .i64 y0c, .int .i64 y0d, .bool y0e, .int .i64 y0f, .int .i64 y0g] 49)) wx)
  case first =>
    obtain ⟨zb1a, cb1a0, cb1a1, cb1a2, cb1a3, cb1a4, cb1a5, cb1a6⟩ := ba0.open7
    go_wp2_with fail
    refine (L_toCamera (y0a) (y0b) (y0c) (y0d) (y0e) (y0f) (y0g) _).mono ?_
    rintro e v1a ⟨rfl, hbv1a⟩
    have hzv1a := hbv1a.size; (try simp at hzv1a)
    have cv1aa := fun o => hbv1a.cell (p := ⟨w.heap.size, o, none⟩) (by first | omega | (simp <;> omega))
    have zv1aa : w.heap.size < v1a.heap.size := (by first | omega | (simp <;> omega))
    have ev1aa : ¬ w.heap.size = v1a.heap.size := (by omega)
    have gv1aa : ¬ v1a.heap.size = w.heap.size := (by omega)
    go_wp2_with fail
    refine (HS.out  _ ).mono ?_
    rintro e v1b ⟨Tv1ba, kv1ba, Tv1bb, kv1bb, rfl, ov1ba, ov1bb, gev1ba, gev1bb, div1b, hbv1b⟩
    have hzv1b := hbv1b.size; (try simp at hzv1b)
    have cv1ba := fun o => hbv1b.cell (p := ⟨w.heap.size, o, none⟩) (by first | omega | (simp <;> omega))
    have zv1ba : w.heap.size < v1b.heap.size := (by first | omega | (simp <;> omega))
    have ev1ba : ¬ w.heap.size = v1b.heap.size := (by omega)
    have gv1ba : ¬ v1b.heap.size = w.heap.size := (by omega)
    go_wp2_with fail
    go_meet
    exact ⟨Tv1ba, kv1ba, Tv1bb, kv1bb, _, rfl, Box.mk4 (by first | omega | (simp <;> omega)) (by go_simp) (by go_simp) (by go_simp) (by go_simp), (by first | omega | (simp <;> omega)), (by repeat (first | (with_reducible exact ov1ba) | ((with_reducible refine OwnS.far ?_ (fun x hx => ?_) _); rotate_left; (have h1 := gev1ba x hx; have h2 := OwnS.lt ov1ba x hx; (try simp at h1); first | omega | (simp <;> omega))) | (with_reducible refine OwnS.alloc ?_ _) | (with_reducible refine OwnS.drewN ?_ _) | (with_reducible refine OwnS.drew ?_) | (with_reducible refine OwnS.step (by assumption) ?_))), (fun x hx => by have h1 := gev1ba x hx; (try simp at h1); first | omega | (simp <;> omega)), (fun x hx => by have h1 := gev1ba x hx; have h2 := OwnS.lt ov1ba x hx; (try simp at h1); first | omega | (simp <;> omega)), (by repeat (first | (with_reducible exact ov1bb) | ((with_reducible refine OwnS.far ?_ (fun x hx => ?_) _); rotate_left; (have h1 := gev1bb x hx; have h2 := OwnS.lt ov1bb x hx; (try simp at h1); first | omega | (simp <;> omega))) | (with_reducible refine OwnS.alloc ?_ _) | (with_reducible refine OwnS.drewN ?_ _) | (with_reducible refine OwnS.drew ?_) | (with_reducible refine OwnS.step (by assumption) ?_))), (fun x hx => by have h1 := gev1bb x hx; (try simp at h1); first | omega | (simp <;> omega)), (fun x hx => by have h1 := gev1bb x hx; have h2 := OwnS.lt ov1bb x hx; (try simp at h1); first | omega | (simp <;> omega)), div1b, rfl, (by repeat (first | (with_reducible exact Below.refl _ _) | (with_reducible assumption) | ((with_reducible refine Below.alloc ?_ ?_ _); rotate_left; (first | omega | (simp <;> omega))) | ((with_reducible refine Below.setCell ?_ ?_ _); rotate_left; (first | omega | (simp <;> omega))) | (with_reducible refine below_drewN ?_ _) | (with_reducible refine Below.drew ?_) | ((with_reducible refine Below.step (by assumption) ?_ ?_); rotate_left; (first | omega | (simp <;> omega)))))⟩
  case rest =>
    obtain ⟨u1, rfl⟩ : ∃ u1, u1 = wc := ⟨_, rfl⟩
    obtain ⟨A13a, c13a, A13b, c13b, B13, rfl, bx13, bg13, o13a, ge13a, ne130, o13b, ge13b, ne131, di13, rfl, hb⟩ := hcut
    replace hB := Below.step hb hB hB.size
    replace ba0 := Box.step hb ba0
    replace o13a := OwnS.rs o13a
    replace o13b := OwnS.rs o13b
    have hS := Below.refl u1.heap.size u1
    have hBS := hB.size
    go_upto_region 2 with fail
    go_cut [5, 6] (fun s5 s6 wx => ∃ A25a c25a A25b c25b B25, s5 = .pointer (some ⟨B25, 0, none⟩) ∧ Box wx B25 [.int .i64 r0a, .int .i64 r0b, (.slice A25a r0lc.length c25a), (.slice A25b r0ld.length c25b)] ∧ u1.heap.size ≤ B25 ∧ OwnS wx 1 A25a r0lc.length c25a 3 (ints r0lc) ∧ (∀ x, x ∈ gOf A25a → u1.heap.size ≤ x) ∧ (∀ x, x ∈ gOf A25a → x ≠ B25) ∧ OwnS wx 1 A25b r0ld.length c25b 4 (bools r0ld) ∧ (∀ x, x ∈ gOf A25b → u1.heap.size ≤ x) ∧ (∀ x, x ∈ gOf A25b → x ≠ B25) ∧ (∀ x, x ∈ gOf A25a → x ∉ gOf A25b) ∧ s6 = (.bool r1) ∧ Below u1.heap.size u1 wx)
    case first =>
      obtain ⟨zb2a, cb2a0, cb2a1, cb2a2, cb2a3, cb2a4, cb2a5, cb2a6⟩ := (Box.step hS ba0).open7
      go_wp2_with fail
      refine (L_toCamera (y0a) (y0b) (y0c) (y0d) (y0e) (y0f) (y0g) _).mono ?_
      rintro e v2a ⟨rfl, hbv2a⟩
      have hzv2a := hbv2a.size; (try simp at hzv2a)
      have cv2aa := fun o => hbv2a.cell (p := ⟨w.heap.size, o, none⟩) (by first | omega | (simp <;> omega))
      have zv2aa : w.heap.size < v2a.heap.size := (by first | omega | (simp <;> omega))
      have ev2aa : ¬ w.heap.size = v2a.heap.size := (by omega)
      have gv2aa : ¬ v2a.heap.size = w.heap.size := (by omega)
      go_wp2_with fail
      refine (HI.out  _ ).mono ?_
      rintro e v2b ⟨Tv2ba, kv2ba, Tv2bb, kv2bb, rfl, ov2ba, ov2bb, gev2ba, gev2bb, div2b, hbv2b⟩
      have hzv2b := hbv2b.size; (try simp at hzv2b)
      have cv2ba := fun o => hbv2b.cell (p := ⟨w.heap.size, o, none⟩) (by first | omega | (simp <;> omega))
      have zv2ba : w.heap.size < v2b.heap.size := (by first | omega | (simp <;> omega))
      have ev2ba : ¬ w.heap.size = v2b.heap.size := (by omega)
      have gv2ba : ¬ v2b.heap.size = w.heap.size := (by omega)
      go_wp2_with fail
      go_meet
      exact ⟨Tv2ba, kv2ba, Tv2bb, kv2bb, _, rfl, Box.mk4 (by first | omega | (simp <;> omega)) (by go_simp) (by go_simp) (by go_simp) (by go_simp), (by first | omega | (simp <;> omega)), (by repeat (first | (with_reducible exact ov2ba) | ((with_reducible refine OwnS.far ?_ (fun x hx => ?_) _); rotate_left; (have h1 := gev2ba x hx; have h2 := OwnS.lt ov2ba x hx; (try simp at h1); first | omega | (simp <;> omega))) | (with_reducible refine OwnS.alloc ?_ _) | (with_reducible refine OwnS.drewN ?_ _) | (with_reducible refine OwnS.drew ?_) | (with_reducible refine OwnS.step (by assumption) ?_))), (fun x hx => by have h1 := gev2ba x hx; (try simp at h1); first | omega | (simp <;> omega)), (fun x hx => by have h1 := gev2ba x hx; have h2 := OwnS.lt ov2ba x hx; (try simp at h1); first | omega | (simp <;> omega)), (by repeat (first | (with_reducible exact ov2bb) | ((with_reducible refine OwnS.far ?_ (fun x hx => ?_) _); rotate_left; (have h1 := gev2bb x hx; have h2 := OwnS.lt ov2bb x hx; (try simp at h1); first | omega | (simp <;> omega))) | (with_reducible refine OwnS.alloc ?_ _) | (with_reducible refine OwnS.drewN ?_ _) | (with_reducible refine OwnS.drew ?_) | (with_reducible refine OwnS.step (by assumption) ?_))), (fun x hx => by have h1 := gev2bb x hx; (try simp at h1); first | omega | (simp <;> omega)), (fun x hx => by have h1 := gev2bb x hx; have h2 := OwnS.lt ov2bb x hx; (try simp at h1); first | omega | (simp <;> omega)), div2b, rfl, (by repeat (first | (with_reducible exact Below.refl _ _) | (with_reducible assumption) | ((with_reducible refine Below.alloc ?_ ?_ _); rotate_left; (first | omega | (simp <;> omega))) | ((with_reducible refine Below.setCell ?_ ?_ _); rotate_left; (first | omega | (simp <;> omega))) | (with_reducible refine below_drewN ?_ _) | (with_reducible refine Below.drew ?_) | ((with_reducible refine Below.step (by assumption) ?_ ?_); rotate_left; (first | omega | (simp <;> omega)))))⟩
    case rest =>
      obtain ⟨u2, rfl⟩ : ∃ u2, u2 = wc := ⟨_, rfl⟩
      obtain ⟨A25a, c25a, A25b, c25b, B25, rfl, bx25, bg25, o25a, ge25a, ne250, o25b, ge25b, ne251, di25, rfl, hb⟩ := hcut
      replace hB := Below.step hb hB hB.size
      have hSs := hS.size
      replace hS := Below.step hb hS hS.size
      clear hb
      go_upto_region 3 with fail
      go_cut [31] (fun sd wx => sd = .bool false ∧ Below u2.heap.size u2 wx)
      case first =>
        obtain ⟨zb3a, cb3a0, cb3a1, cb3a2, cb3a3⟩ := bx25.open4
        obtain ⟨zb3b, cb3b0, cb3b1, cb3b2, cb3b3⟩ := (Box.step hS bx13).open4
        go_wp2_with fail
        refine (L_eqFilm _ (RS.step (by repeat (first | (with_reducible exact Below.refl _ _) | (with_reducible assumption) | ((with_reducible refine Below.alloc ?_ ?_ _); rotate_left; (first | omega | (simp <;> omega))) | ((with_reducible refine Below.setCell ?_ ?_ _); rotate_left; (first | omega | (simp <;> omega))) | (with_reducible refine below_drewN ?_ _) | (with_reducible refine Below.drew ?_) | ((with_reducible refine Below.step (by assumption) ?_ ?_); rotate_left; (first | omega | (simp <;> omega))))) (OwnS.rs o25a)) (RS.step (by repeat (first | (with_reducible exact Below.refl _ _) | (with_reducible assumption) | ((with_reducible refine Below.alloc ?_ ?_ _); rotate_left; (first | omega | (simp <;> omega))) | ((with_reducible refine Below.setCell ?_ ?_ _); rotate_left; (first | omega | (simp <;> omega))) | (with_reducible refine below_drewN ?_ _) | (with_reducible refine Below.drew ?_) | ((with_reducible refine Below.step (by assumption) ?_ ?_); rotate_left; (first | omega | (simp <;> omega))))) (OwnS.rs o25b)) (RS.step (by repeat (first | (with_reducible exact Below.refl _ _) | (with_reducible assumption) | ((with_reducible refine Below.alloc ?_ ?_ _); rotate_left; (first | omega | (simp <;> omega))) | ((with_reducible refine Below.setCell ?_ ?_ _); rotate_left; (first | omega | (simp <;> omega))) | (with_reducible refine below_drewN ?_ _) | (with_reducible refine Below.drew ?_) | ((with_reducible refine Below.step (by assumption) ?_ ?_); rotate_left; (first | omega | (simp <;> omega))))) (RS.step hS o13a)) (RS.step (by repeat (first | (with_reducible exact Below.refl _ _) | (with_reducible assumption) | ((with_reducible refine Below.alloc ?_ ?_ _); rotate_left; (first | omega | (simp <;> omega))) | ((with_reducible refine Below.setCell ?_ ?_ _); rotate_left; (first | omega | (simp <;> omega))) | (with_reducible refine below_drewN ?_ _) | (with_reducible refine Below.drew ?_) | ((with_reducible refine Below.step (by assumption) ?_ ?_); rotate_left; (first | omega | (simp <;> omega))))) (RS.step hS o13b))).mono ?_
        rintro e v3a ⟨rfl, hbv3a⟩
        have hzv3a := hbv3a.size; (try simp at hzv3a)
        have cv3aa := fun o => hbv3a.cell (p := ⟨B25, o, none⟩) (by first | omega | (simp <;> omega))
        have zv3aa : B25 < v3a.heap.size := (by first | omega | (simp <;> omega))
        have ev3aa : ¬ B25 = v3a.heap.size := (by omega)
        have gv3aa : ¬ v3a.heap.size = B25 := (by omega)
        have cv3ab := fun o => hbv3a.cell (p := ⟨B13, o, none⟩) (by first | omega | (simp <;> omega))
        have zv3ab : B13 < v3a.heap.size := (by first | omega | (simp <;> omega))
        have ev3ab : ¬ B13 = v3a.heap.size := (by omega)
        have gv3ab : ¬ v3a.heap.size = B13 := (by omega)
        go_wp2_with fail
        go_meet
        exact ⟨rfl, (by repeat (first | (with_reducible exact Below.refl _ _) | (with_reducible assumption) | ((with_reducible refine Below.alloc ?_ ?_ _); rotate_left; (first | omega | (simp <;> omega))) | ((with_reducible refine Below.setCell ?_ ?_ _); rotate_left; (first | omega | (simp <;> omega))) | (with_reducible refine below_drewN ?_ _) | (with_reducible refine Below.drew ?_) | ((with_reducible refine Below.step (by assumption) ?_ ?_); rotate_left; (first | omega | (simp <;> omega)))))⟩
      case rest =>
        obtain ⟨u3, rfl⟩ : ∃ u3, u3 = wc := ⟨_, rfl⟩
        obtain ⟨rfl, hb⟩ := hcut
        replace hB := Below.step hb hB hB.size
        replace hS := Below.step hb hS hS.size
        replace bx25 := Box.step hb bx25
        replace o25a := OwnS.step hb o25a
        replace o25b := OwnS.step hb o25b
        clear hb
        go_upto_region 6 with fail
        go_cut [7] (fun sd wx => sd = .int .i64 ((1 : Int) + (r0lc.length : Int) + (r0ld.length : Int)) ∧ OwnS wx 1 A25a r0lc.length c25a 3 (ints (upFrom (1 : Int) r0lc.length)) ∧ OwnS wx 1 A25b r0ld.length c25b 4 (bools (thirds ((1 : Int) + (r0lc.length : Int)) r0ld.length)) ∧ Only u3.heap.size (gOf A25a ++ gOf A25b) u3 wx)
        case first =>
          obtain ⟨zb4a, cb4a0, cb4a1, cb4a2, cb4a3⟩ := bx25.open4
          go_wp2_with fail
          refine (L_markFilmG _ o25a (by omega) o25b (by omega) di25 (by omega) (by omega)).mono ?_
          rintro e v4a ⟨rfl, ov4aa, ov4ab, hOv4a⟩
          have hzv4a := hOv4a.size
          go_wp2_with fail
          go_meet
          exact ⟨rfl, ov4aa, ov4ab, hOv4a⟩
        case rest =>
          obtain ⟨u4, rfl⟩ : ∃ u4, u4 = wc := ⟨_, rfl⟩
          obtain ⟨rfl, nw0, nw1, hO⟩ := hcut
          have hG : ∀ y, y ∈ gOf A25a ++ gOf A25b → u1.heap.size ≤ y := fun y hx => (List.mem_append.1 hx).elim (ge25a y) (ge25b y)
          replace hB := hB.trans (hO.below hB.size (fun y hy => by have := hG y hy; omega))
          replace hS := hS.trans (hO.below hS.size (fun y hy => by have := hG y hy; omega))
          replace bx25 := Box.only hO bx25 bx25.lt (fun hy => (List.mem_append.1 hy).elim (fun h => ne250 _ h rfl) (fun h => ne251 _ h rfl))
          clear o25a
          have o25a := nw0
          clear nw0
          clear o25b
          have o25b := nw1
          clear nw1
          clear hO hG
          have t4 : ¬ (1 : Int) + (r0lc.length : Int) + (r0ld.length : Int) < 0 := by omega
          go_upto_region 8 with fail
          go_cut [8] (fun sd wx => sd = .int .i64 ((1 : Int) + (r0lc.length : Int) + (r0ld.length : Int)) ∧ Below u4.heap.size u4 wx)
          case first =>
            obtain ⟨zb5a, cb5a0, cb5a1, cb5a2, cb5a3⟩ := bx25.open4
            go_wp2_with fail
            refine (L_heldFilmG _ o25a (by omega) o25b (by omega) (by omega) (by omega)).mono ?_
            rintro e v5a ⟨rfl, hbv5a⟩
            have hzv5a := hbv5a.size; (try simp at hzv5a)
            have cv5aa := fun o => hbv5a.cell (p := ⟨B25, o, none⟩) (by first | omega | (simp <;> omega))
            have zv5aa : B25 < v5a.heap.size := (by first | omega | (simp <;> omega))
            have ev5aa : ¬ B25 = v5a.heap.size := (by omega)
            have gv5aa : ¬ v5a.heap.size = B25 := (by omega)
            go_wp2_with fail
            go_meet
            exact ⟨rfl, (by repeat (first | (with_reducible exact Below.refl _ _) | (with_reducible assumption) | ((with_reducible refine Below.alloc ?_ ?_ _); rotate_left; (first | omega | (simp <;> omega))) | ((with_reducible refine Below.setCell ?_ ?_ _); rotate_left; (first | omega | (simp <;> omega))) | (with_reducible refine below_drewN ?_ _) | (with_reducible refine Below.drew ?_) | ((with_reducible refine Below.step (by assumption) ?_ ?_); rotate_left; (first | omega | (simp <;> omega)))))⟩
          case rest =>
            obtain ⟨u5, rfl⟩ : ∃ u5, u5 = wc := ⟨_, rfl⟩
            obtain ⟨rfl, hb⟩ := hcut
            replace hB := Below.step hb hB hB.size
            replace hS := Below.step hb hS hS.size
            replace bx25 := Box.step hb bx25
            replace o25a := OwnS.step hb o25a
            replace o25b := OwnS.step hb o25b
            clear hb
            have t5 : ¬ (1 : Int) + (r0lc.length : Int) + (r0ld.length : Int) < 0 := by omega
            go_upto_region 13 with fail
            go_cut [9, 10] (fun s9 s10 wx => ∃ A69a c69a A69b c69b B69, s9 = .pointer (some ⟨B69, 0, none⟩) ∧ Box wx B69 [.int .i64 r0a, .int .i64 r0b, (.slice A69a r0lc.length c69a), (.slice A69b r0ld.length c69b)] ∧ u5.heap.size ≤ B69 ∧ OwnS wx 1 A69a r0lc.length c69a 3 (ints r0lc) ∧ (∀ x, x ∈ gOf A69a → u5.heap.size ≤ x) ∧ (∀ x, x ∈ gOf A69a → x ≠ B69) ∧ OwnS wx 1 A69b r0ld.length c69b 4 (bools r0ld) ∧ (∀ x, x ∈ gOf A69b → u5.heap.size ≤ x) ∧ (∀ x, x ∈ gOf A69b → x ≠ B69) ∧ (∀ x, x ∈ gOf A69a → x ∉ gOf A69b) ∧ s10 = (.bool r1) ∧ Below u5.heap.size u5 wx)
            case first =>
              obtain ⟨zb6a, cb6a0, cb6a1, cb6a2, cb6a3, cb6a4, cb6a5, cb6a6⟩ := (Box.step hS ba0).open7
              go_wp2_with fail
              refine (L_toCamera (y0a) (y0b) (y0c) (y0d) (y0e) (y0f) (y0g) _).mono ?_
              rintro e v6a ⟨rfl, hbv6a⟩
              have hzv6a := hbv6a.size; (try simp at hzv6a)
              have cv6aa := fun o => hbv6a.cell (p := ⟨w.heap.size, o, none⟩) (by first | omega | (simp <;> omega))
              have zv6aa : w.heap.size < v6a.heap.size := (by first | omega | (simp <;> omega))
              have ev6aa : ¬ w.heap.size = v6a.heap.size := (by omega)
              have gv6aa : ¬ v6a.heap.size = w.heap.size := (by omega)
              go_wp2_with fail
              refine (HI.out  _ ).mono ?_
              rintro e v6b ⟨Tv6ba, kv6ba, Tv6bb, kv6bb, rfl, ov6ba, ov6bb, gev6ba, gev6bb, div6b, hbv6b⟩
              have hzv6b := hbv6b.size; (try simp at hzv6b)
              have cv6ba := fun o => hbv6b.cell (p := ⟨w.heap.size, o, none⟩) (by first | omega | (simp <;> omega))
              have zv6ba : w.heap.size < v6b.heap.size := (by first | omega | (simp <;> omega))
              have ev6ba : ¬ w.heap.size = v6b.heap.size := (by omega)
              have gv6ba : ¬ v6b.heap.size = w.heap.size := (by omega)
              go_wp2_with fail
              go_meet
              exact ⟨Tv6ba, kv6ba, Tv6bb, kv6bb, _, rfl, Box.mk4 (by first | omega | (simp <;> omega)) (by go_simp) (by go_simp) (by go_simp) (by go_simp), (by first | omega | (simp <;> omega)), (by repeat (first | (with_reducible exact ov6ba) | ((with_reducible refine OwnS.far ?_ (fun x hx => ?_) _); rotate_left; (have h1 := gev6ba x hx; have h2 := OwnS.lt ov6ba x hx; (try simp at h1); first | omega | (simp <;> omega))) | (with_reducible refine OwnS.alloc ?_ _) | (with_reducible refine OwnS.drewN ?_ _) | (with_reducible refine OwnS.drew ?_) | (with_reducible refine OwnS.step (by assumption) ?_))), (fun x hx => by have h1 := gev6ba x hx; (try simp at h1); first | omega | (simp <;> omega)), (fun x hx => by have h1 := gev6ba x hx; have h2 := OwnS.lt ov6ba x hx; (try simp at h1); first | omega | (simp <;> omega)), (by repeat (first | (with_reducible exact ov6bb) | ((with_reducible refine OwnS.far ?_ (fun x hx => ?_) _); rotate_left; (have h1 := gev6bb x hx; have h2 := OwnS.lt ov6bb x hx; (try simp at h1); first | omega | (simp <;> omega))) | (with_reducible refine OwnS.alloc ?_ _) | (with_reducible refine OwnS.drewN ?_ _) | (with_reducible refine OwnS.drew ?_) | (with_reducible refine OwnS.step (by assumption) ?_))), (fun x hx => by have h1 := gev6bb x hx; (try simp at h1); first | omega | (simp <;> omega)), (fun x hx => by have h1 := gev6bb x hx; have h2 := OwnS.lt ov6bb x hx; (try simp at h1); first | omega | (simp <;> omega)), div6b, rfl, (by repeat (first | (with_reducible exact Below.refl _ _) | (with_reducible assumption) | ((with_reducible refine Below.alloc ?_ ?_ _); rotate_left; (first | omega | (simp <;> omega))) | ((with_reducible refine Below.setCell ?_ ?_ _); rotate_left; (first | omega | (simp <;> omega))) | (with_reducible refine below_drewN ?_ _) | (with_reducible refine Below.drew ?_) | ((with_reducible refine Below.step (by assumption) ?_ ?_); rotate_left; (first | omega | (simp <;> omega)))))⟩
            case rest =>
              obtain ⟨u6, rfl⟩ : ∃ u6, u6 = wc := ⟨_, rfl⟩
              obtain ⟨A69a, c69a, A69b, c69b, B69, rfl, bx69, bg69, o69a, ge69a, ne690, o69b, ge69b, ne691, di69, rfl, hb⟩ := hcut
              have lto25a6 := OwnS.lt o25a
              have lto25b6 := OwnS.lt o25b
              have lbbx256 := bx25.lt
              replace hB := Below.step hb hB hB.size
              have hSs := hS.size
              replace hS := Below.step hb hS hS.size
              replace bx25 := Box.step hb bx25
              replace o25a := OwnS.step hb o25a
              replace o25b := OwnS.step hb o25b
              clear hb
              go_upto_region 14 with fail
              go_cut [57] (fun sd wx => sd = .bool false ∧ Below u6.heap.size u6 wx)
              case first =>
                obtain ⟨zb7a, cb7a0, cb7a1, cb7a2, cb7a3⟩ := bx69.open4
                obtain ⟨zb7b, cb7b0, cb7b1, cb7b2, cb7b3⟩ := (Box.step hS bx13).open4
                go_wp2_with fail
                refine (L_eqFilm _ (RS.step (by repeat (first | (with_reducible exact Below.refl _ _) | (with_reducible assumption) | ((with_reducible refine Below.alloc ?_ ?_ _); rotate_left; (first | omega | (simp <;> omega))) | ((with_reducible refine Below.setCell ?_ ?_ _); rotate_left; (first | omega | (simp <;> omega))) | (with_reducible refine below_drewN ?_ _) | (with_reducible refine Below.drew ?_) | ((with_reducible refine Below.step (by assumption) ?_ ?_); rotate_left; (first | omega | (simp <;> omega))))) (OwnS.rs o69a)) (RS.step (by repeat (first | (with_reducible exact Below.refl _ _) | (with_reducible assumption) | ((with_reducible refine Below.alloc ?_ ?_ _); rotate_left; (first | omega | (simp <;> omega))) | ((with_reducible refine Below.setCell ?_ ?_ _); rotate_left; (first | omega | (simp <;> omega))) | (with_reducible refine below_drewN ?_ _) | (with_reducible refine Below.drew ?_) | ((with_reducible refine Below.step (by assumption) ?_ ?_); rotate_left; (first | omega | (simp <;> omega))))) (OwnS.rs o69b)) (RS.step (by repeat (first | (with_reducible exact Below.refl _ _) | (with_reducible assumption) | ((with_reducible refine Below.alloc ?_ ?_ _); rotate_left; (first | omega | (simp <;> omega))) | ((with_reducible refine Below.setCell ?_ ?_ _); rotate_left; (first | omega | (simp <;> omega))) | (with_reducible refine below_drewN ?_ _) | (with_reducible refine Below.drew ?_) | ((with_reducible refine Below.step (by assumption) ?_ ?_); rotate_left; (first | omega | (simp <;> omega))))) (RS.step hS o13a)) (RS.step (by repeat (first | (with_reducible exact Below.refl _ _) | (with_reducible assumption) | ((with_reducible refine Below.alloc ?_ ?_ _); rotate_left; (first | omega | (simp <;> omega))) | ((with_reducible refine Below.setCell ?_ ?_ _); rotate_left; (first | omega | (simp <;> omega))) | (with_reducible refine below_drewN ?_ _) | (with_reducible refine Below.drew ?_) | ((with_reducible refine Below.step (by assumption) ?_ ?_); rotate_left; (first | omega | (simp <;> omega))))) (RS.step hS o13b))).mono ?_
                rintro e v7a ⟨rfl, hbv7a⟩
                have hzv7a := hbv7a.size; (try simp at hzv7a)
                have cv7aa := fun o => hbv7a.cell (p := ⟨B69, o, none⟩) (by first | omega | (simp <;> omega))
                have zv7aa : B69 < v7a.heap.size := (by first | omega | (simp <;> omega))
                have ev7aa : ¬ B69 = v7a.heap.size := (by omega)
                have gv7aa : ¬ v7a.heap.size = B69 := (by omega)
                have cv7ab := fun o => hbv7a.cell (p := ⟨B13, o, none⟩) (by first | omega | (simp <;> omega))
                have zv7ab : B13 < v7a.heap.size := (by first | omega | (simp <;> omega))
                have ev7ab : ¬ B13 = v7a.heap.size := (by omega)
                have gv7ab : ¬ v7a.heap.size = B13 := (by omega)
                go_wp2_with fail
                go_meet
                exact ⟨rfl, (by repeat (first | (with_reducible exact Below.refl _ _) | (with_reducible assumption) | ((with_reducible refine Below.alloc ?_ ?_ _); rotate_left; (first | omega | (simp <;> omega))) | ((with_reducible refine Below.setCell ?_ ?_ _); rotate_left; (first | omega | (simp <;> omega))) | (with_reducible refine below_drewN ?_ _) | (with_reducible refine Below.drew ?_) | ((with_reducible refine Below.step (by assumption) ?_ ?_); rotate_left; (first | omega | (simp <;> omega)))))⟩
              case rest =>
                obtain ⟨u7, rfl⟩ : ∃ u7, u7 = wc := ⟨_, rfl⟩
                obtain ⟨rfl, hb⟩ := hcut
                replace hB := Below.step hb hB hB.size
                replace hS := Below.step hb hS hS.size
                replace bx25 := Box.step hb bx25
                replace o25a := OwnS.step hb o25a
                replace o25b := OwnS.step hb o25b
                replace bx69 := Box.step hb bx69
                replace o69a := OwnS.step hb o69a
                replace o69b := OwnS.step hb o69b
                clear hb
                go_upto_region 17 with fail
                go_cut [8] (fun sd wx => sd = .int .i64 ((1 : Int) + (r0lc.length : Int) + (r0ld.length : Int)) ∧ Below u7.heap.size u7 wx)
                case first =>
                  obtain ⟨zb8a, cb8a0, cb8a1, cb8a2, cb8a3⟩ := bx25.open4
                  go_wp2_with fail
                  refine (L_heldFilmG _ o25a (by omega) o25b (by omega) (by omega) (by omega)).mono ?_
                  rintro e v8a ⟨rfl, hbv8a⟩
                  have hzv8a := hbv8a.size; (try simp at hzv8a)
                  have cv8aa := fun o => hbv8a.cell (p := ⟨B25, o, none⟩) (by first | omega | (simp <;> omega))
                  have zv8aa : B25 < v8a.heap.size := (by first | omega | (simp <;> omega))
                  have ev8aa : ¬ B25 = v8a.heap.size := (by omega)
                  have gv8aa : ¬ v8a.heap.size = B25 := (by omega)
                  go_wp2_with fail
                  go_meet
                  exact ⟨rfl, (by repeat (first | (with_reducible exact Below.refl _ _) | (with_reducible assumption) | ((with_reducible refine Below.alloc ?_ ?_ _); rotate_left; (first | omega | (simp <;> omega))) | ((with_reducible refine Below.setCell ?_ ?_ _); rotate_left; (first | omega | (simp <;> omega))) | (with_reducible refine below_drewN ?_ _) | (with_reducible refine Below.drew ?_) | ((with_reducible refine Below.step (by assumption) ?_ ?_); rotate_left; (first | omega | (simp <;> omega)))))⟩
                case rest =>
                  obtain ⟨u8, rfl⟩ : ∃ u8, u8 = wc := ⟨_, rfl⟩
                  obtain ⟨rfl, hb⟩ := hcut
                  replace hB := Below.step hb hB hB.size
                  replace hS := Below.step hb hS hS.size
                  replace bx25 := Box.step hb bx25
                  replace o25a := OwnS.step hb o25a
                  replace o25b := OwnS.step hb o25b
                  replace bx69 := Box.step hb bx69
                  replace o69a := OwnS.step hb o69a
                  replace o69b := OwnS.step hb o69b
                  clear hb
                  have t8 : ¬ (1 : Int) + (r0lc.length : Int) + (r0ld.length : Int) < 0 := by omega
                  go_wp2
                  go_ret
                  exact ⟨rfl, hB⟩
theorem L_ExNewFilm (y0a : Int) (y0b : Int) (y0c : Int) (y0d : Int) (y0e : Bool) (y0f : Int) (y0g : Int) (w : World)  :
    Calls Try.prog 6 #[(.agg #[.int .i64 y0a, .int .i64 y0b, .int .i64 y0c, .int .i64 y0d, .bool y0e, .int .i64 y0f, .int .i64 y0g])] w fun e w' => e = .returned (.bool true) ∧ Below w.heap.size w w' := by
  obtain ⟨n, hn⟩ : ∃ n : Nat, (validCam y0a y0b y0c y0d y0f y0g = true → y0a * y0b = n ∧ n ≤ 144) ∧ n ≤ 144 := by
    by_cases hv : validCam y0a y0b y0c y0d y0f y0g = true
    · obtain ⟨n, h1, _, h2⟩ := area_nat (validCam_size hv)
      exact ⟨n, fun _ => ⟨h1, h2⟩, h2⟩
    · exact ⟨0, fun h => absurd h hv, by omega⟩
  have hm : (if validCam y0a y0b y0c y0d y0f y0g = true then n else 0) ≤ 144 := by split <;> omega
  have key : ∀ (k : Nat) (wx : World) (F : FuncId), Calls Try.prog F #[vCamera y0a y0b y0c y0d y0e y0f y0g] wx (NewFilmR (validCam y0a y0b y0c y0d y0f y0g) y0a y0b n wx) → Calls Try.prog F #[vCamera y0a y0b y0c y0d y0e y0f y0g] wx (MadeFilm (fun s0 s1 => .tuple #[(vFilm (if validCam y0a y0b y0c y0d y0f y0g then y0a else 0) (if validCam y0a y0b y0c y0d y0f y0g then y0b else 0) s0 s1), (.bool (validCam y0a y0b y0c y0d y0f y0g))]) (List.replicate (if validCam y0a y0b y0c y0d y0f y0g then n else 0) (0 : Int)).length (ints (List.replicate (if validCam y0a y0b y0c y0d y0f y0g then n else 0) 0)) (List.replicate (if validCam y0a y0b y0c y0d y0f y0g then n else 0) false).length (bools (List.replicate (if validCam y0a y0b y0c y0d y0f y0g then n else 0) false)) wx) := by
    intro k wx F h
    simpa only [List.length_replicate, NewFilmR] using h
  exact L_ExNewFilm1 y0a y0b y0c y0d y0e y0f y0g _ _ _ _ _ w (by simp; omega) (by simp; omega) (Lib.hid fun wx => key 0 wx _ (S_NewFilm wx hn.1)) (Lib.hid fun wx => key 0 wx _ (I_NewFilm wx hn.1))
theorem FnExactNewFilm_walk : LawWalk 6 [49] := by
  intro H enc W base args ds ps hA hval hlt
  obtain ⟨v0, rfl, a0⟩ := args1 hA hval
  obtain ⟨y0a, y0b, y0c, y0d, y0e, y0f, y0g, rfl, _⟩ := a0.camera
  exact L_ExNewFilm y0a y0b y0c y0d y0e y0f y0g W 
end Go.Proofs.Ytndipkclmecpoaa
