/- MADE BY PROGRAM (genlaw.py). The law FnExactResolveAccum. -/
import Derived.Test.YtndipkclmecpoaaResolve
import Derived.Test.YtndipkclmecpoaaMade
import Derived.Deep.RegionHeld3
import Derived.Deep.DeepCutAuto
namespace Go.Proofs.Ytndipkclmecpoaa
open Go.ChangeShapes Go.WideShapes Go.ChangeAt Go.RowKit
set_option linter.unusedVariables false
set_option maxRecDepth 100000
set_option maxHeartbeats 8000000 in
theorem L_ExResolveAccum1 (y0a y0b : Int) (y0lc : List Int) (y0ld : List Int) (A0a : Option Addr) (p0a : Nat) (A0b : Option Addr) (p0b : Nat) (r0l : List Int) (w : World) (h0a : RS w 1 A0a y0lc.length p0a (ints y0lc)) (h0b : RS w 1 A0b y0ld.length p0b (ints y0ld)) (br0l : r0l.length ≤ 1048576) (HS : Hid (∀ (A0a : Option Addr) (p0a : Nat), ∀ (A0b : Option Addr) (p0b : Nat), ∀ (wx : World), RS wx 1 A0a y0lc.length p0a (ints y0lc) → RS wx 1 A0b y0ld.length p0b (ints y0ld) → Calls Try.prog 56 #[(vAccum y0a y0b (.slice A0a y0lc.length p0a) (.slice A0b y0ld.length p0b))] wx (MadeRow 3 1 r0l.length (ints r0l) wx))) (HI : Hid (∀ (A0a : Option Addr) (p0a : Nat), ∀ (A0b : Option Addr) (p0b : Nat), ∀ (wx : World), RS wx 1 A0a y0lc.length p0a (ints y0lc) → RS wx 1 A0b y0ld.length p0b (ints y0ld) → Calls Try.prog 58 #[(vAccum y0a y0b (.slice A0a y0lc.length p0a) (.slice A0b y0ld.length p0b))] wx (MadeRow 3 1 r0l.length (ints r0l) wx))) :
    Calls Try.prog 13 #[(vAccum y0a y0b (.slice A0a y0lc.length p0a) (.slice A0b y0ld.length p0b))] w fun e w' => e = .returned (.bool true) ∧ Below w.heap.size w w' := by
  have mh0a := h0a.len
  have mh0b := h0b.len
  unfold maxLen at *
  go_enter Try.func13, Try.ntmps13
  go_upto_region 1 with fail
  go_cut [3] (fun sl wx => sl = .int .i64 1048576 ∧ Box wx (w.heap.size) [.int .i64 y0a, .int .i64 y0b, (.slice A0a y0lc.length p0a), (.slice A0b y0ld.length p0b)] ∧ RS wx 1 A0a y0lc.length p0a (ints y0lc) ∧ RS wx 1 A0b y0ld.length p0b (ints y0ld) ∧ Below w.heap.size w wx)
  case first =>
    go_wp2_with fail
    go_meet
    exact ⟨rfl, Box.of_own (t := 78) (by repeat (first | (exact Own.at_lit (by simp)) | (with_reducible refine Own.alloc ?_ _))), (RS.step (by repeat (first | (with_reducible exact Below.refl _ _) | (with_reducible assumption) | ((with_reducible refine Below.alloc ?_ ?_ _); rotate_left; (first | omega | (simp <;> omega))) | ((with_reducible refine Below.setCell ?_ ?_ _); rotate_left; (first | omega | (simp <;> omega))) | (with_reducible refine below_drewN ?_ _) | (with_reducible refine Below.drew ?_) | ((with_reducible refine Below.step (by assumption) ?_ ?_); rotate_left; (first | omega | (simp <;> omega))))) h0a), (RS.step (by repeat (first | (with_reducible exact Below.refl _ _) | (with_reducible assumption) | ((with_reducible refine Below.alloc ?_ ?_ _); rotate_left; (first | omega | (simp <;> omega))) | ((with_reducible refine Below.setCell ?_ ?_ _); rotate_left; (first | omega | (simp <;> omega))) | (with_reducible refine below_drewN ?_ _) | (with_reducible refine Below.drew ?_) | ((with_reducible refine Below.step (by assumption) ?_ ?_); rotate_left; (first | omega | (simp <;> omega))))) h0b), (by repeat (first | (with_reducible exact Below.refl _ _) | (with_reducible assumption) | ((with_reducible refine Below.alloc ?_ ?_ _); rotate_left; (first | omega | (simp <;> omega))) | ((with_reducible refine Below.setCell ?_ ?_ _); rotate_left; (first | omega | (simp <;> omega))) | (with_reducible refine below_drewN ?_ _) | (with_reducible refine Below.drew ?_) | ((with_reducible refine Below.step (by assumption) ?_ ?_); rotate_left; (first | omega | (simp <;> omega)))))⟩
  case rest =>
    obtain ⟨u1, rfl⟩ : ∃ u1, u1 = wc := ⟨_, rfl⟩
    obtain ⟨rfl, ba0, qh0a, qh0b, hB⟩ := hcut
    go_upto_region 2 with fail
    go_cut [3] (fun sl wx => (sl = .int .i64 (-1) ∨ ∃ z : Int, sl = .int .i64 z ∧ 0 ≤ z ∧ z ≤ 1048576 ∧ (y0lc.length : Int) ≤ 1048576 ∧ (y0ld.length : Int) ≤ 1048576) ∧ Below u1.heap.size u1 wx)
    case first =>
      obtain ⟨zb1a, cb1a0, cb1a1, cb1a2, cb1a3⟩ := ba0.open4
      go_wp2_with fail
      refine (L_szAccum _ (by first | omega | assumption) (by first | omega | assumption) (by unfold maxLen; first | omega | assumption) (by unfold maxLen; first | omega | assumption)).mono ?_
      rintro e v1a ⟨rfl, hbv1a⟩
      have hzv1a := hbv1a.size; (try simp at hzv1a)
      have cv1aa := fun o => hbv1a.cell (p := ⟨w.heap.size, o, none⟩) (by first | omega | (simp <;> omega))
      have zv1aa : w.heap.size < v1a.heap.size := (by first | omega | (simp <;> omega))
      have ev1aa : ¬ w.heap.size = v1a.heap.size := (by omega)
      have gv1aa : ¬ v1a.heap.size = w.heap.size := (by omega)
      go_wp2_with fail
      go_meet
      rcases szF2_or (1048576) y0lc.length y0ld.length with hq | ⟨hq0, hq1, hq2, hq3⟩
      · exact ⟨.inl (by rw [hq]), (by repeat (first | (with_reducible exact Below.refl _ _) | (with_reducible assumption) | ((with_reducible refine Below.alloc ?_ ?_ _); rotate_left; (first | omega | (simp <;> omega))) | ((with_reducible refine Below.setCell ?_ ?_ _); rotate_left; (first | omega | (simp <;> omega))) | (with_reducible refine below_drewN ?_ _) | (with_reducible refine Below.drew ?_) | ((with_reducible refine Below.step (by assumption) ?_ ?_); rotate_left; (first | omega | (simp <;> omega)))))⟩
      · exact ⟨.inr ⟨_, rfl, hq0, hq1, hq2, hq3⟩, (by repeat (first | (with_reducible exact Below.refl _ _) | (with_reducible assumption) | ((with_reducible refine Below.alloc ?_ ?_ _); rotate_left; (first | omega | (simp <;> omega))) | ((with_reducible refine Below.setCell ?_ ?_ _); rotate_left; (first | omega | (simp <;> omega))) | (with_reducible refine below_drewN ?_ _) | (with_reducible refine Below.drew ?_) | ((with_reducible refine Below.step (by assumption) ?_ ?_); rotate_left; (first | omega | (simp <;> omega)))))⟩
    case rest =>
      obtain ⟨u2, rfl⟩ : ∃ u2, u2 = wc := ⟨_, rfl⟩
      obtain ⟨hsl, hb⟩ := hcut
      replace hB := Below.step hb hB hB.size
      replace ba0 := Box.step hb ba0
      replace qh0a := RS.step hb qh0a
      replace qh0b := RS.step hb qh0b
      clear hb
      rcases hsl with rfl | ⟨z1, rfl, hz10, hz11, hz12, hz13⟩
      · go_wp2
        go_ret
        exact ⟨rfl, hB⟩
      have by0lc : y0lc.length ≤ 1048576 := by omega
      have by0ld : y0ld.length ≤ 1048576 := by omega
      have t1 : ¬ z1 < 0 := by omega
      go_upto_region 5 with fail
      go_cut [4] (fun s4 wx => ∃ A24a c24a, s4 = (.slice A24a r0l.length c24a) ∧ OwnS wx 1 A24a r0l.length c24a 3 (ints r0l) ∧ (∀ x, x ∈ gOf A24a → u2.heap.size ≤ x) ∧ Below u2.heap.size u2 wx)
      case first =>
        obtain ⟨zb2a, cb2a0, cb2a1, cb2a2, cb2a3⟩ := ba0.open4
        go_wp2_with fail
        refine (L_toAccumM (x0 := y0a) (x1 := y0b) (l0 := y0lc) (l1 := y0ld) _ by0lc by0ld (RS.step (by repeat (first | (with_reducible exact Below.refl _ _) | (with_reducible assumption) | ((with_reducible refine Below.alloc ?_ ?_ _); rotate_left; (first | omega | (simp <;> omega))) | ((with_reducible refine Below.setCell ?_ ?_ _); rotate_left; (first | omega | (simp <;> omega))) | (with_reducible refine below_drewN ?_ _) | (with_reducible refine Below.drew ?_) | ((with_reducible refine Below.step (by assumption) ?_ ?_); rotate_left; (first | omega | (simp <;> omega))))) qh0a) (RS.step (by repeat (first | (with_reducible exact Below.refl _ _) | (with_reducible assumption) | ((with_reducible refine Below.alloc ?_ ?_ _); rotate_left; (first | omega | (simp <;> omega))) | ((with_reducible refine Below.setCell ?_ ?_ _); rotate_left; (first | omega | (simp <;> omega))) | (with_reducible refine below_drewN ?_ _) | (with_reducible refine Below.drew ?_) | ((with_reducible refine Below.step (by assumption) ?_ ?_); rotate_left; (first | omega | (simp <;> omega))))) qh0b)).mono ?_
        rintro e v2a ⟨Tv2aa, kv2aa, Tv2ab, kv2ab, rfl, ov2aa, ov2ab, gev2aa, gev2ab, div2a, hbv2a⟩
        have hzv2a := hbv2a.size; (try simp at hzv2a)
        have cv2aa := fun o => hbv2a.cell (p := ⟨w.heap.size, o, none⟩) (by first | omega | (simp <;> omega))
        have zv2aa : w.heap.size < v2a.heap.size := (by first | omega | (simp <;> omega))
        have ev2aa : ¬ w.heap.size = v2a.heap.size := (by omega)
        have gv2aa : ¬ v2a.heap.size = w.heap.size := (by omega)
        go_wp2_with fail
        refine (HS.out _ _ _ _ _ (RS.step (by repeat (first | (with_reducible exact Below.refl _ _) | (with_reducible assumption) | ((with_reducible refine Below.alloc ?_ ?_ _); rotate_left; (first | omega | (simp <;> omega))) | ((with_reducible refine Below.setCell ?_ ?_ _); rotate_left; (first | omega | (simp <;> omega))) | (with_reducible refine below_drewN ?_ _) | (with_reducible refine Below.drew ?_) | ((with_reducible refine Below.step (by assumption) ?_ ?_); rotate_left; (first | omega | (simp <;> omega))))) (OwnS.rs ov2aa)) (RS.step (by repeat (first | (with_reducible exact Below.refl _ _) | (with_reducible assumption) | ((with_reducible refine Below.alloc ?_ ?_ _); rotate_left; (first | omega | (simp <;> omega))) | ((with_reducible refine Below.setCell ?_ ?_ _); rotate_left; (first | omega | (simp <;> omega))) | (with_reducible refine below_drewN ?_ _) | (with_reducible refine Below.drew ?_) | ((with_reducible refine Below.step (by assumption) ?_ ?_); rotate_left; (first | omega | (simp <;> omega))))) (OwnS.rs ov2ab))).mono ?_
        rintro e v2b ⟨Tv2ba, kv2ba, rfl, ov2ba, gev2ba, hbv2b⟩
        have hzv2b := hbv2b.size; (try simp at hzv2b)
        have cv2ba := fun o => hbv2b.cell (p := ⟨w.heap.size, o, none⟩) (by first | omega | (simp <;> omega))
        have zv2ba : w.heap.size < v2b.heap.size := (by first | omega | (simp <;> omega))
        have ev2ba : ¬ w.heap.size = v2b.heap.size := (by omega)
        have gv2ba : ¬ v2b.heap.size = w.heap.size := (by omega)
        go_wp2_with fail
        go_meet
        exact ⟨Tv2ba, kv2ba, rfl, (by repeat (first | (with_reducible exact ov2ba) | ((with_reducible refine OwnS.far ?_ (fun x hx => ?_) _); rotate_left; (have h1 := gev2ba x hx; have h2 := OwnS.lt ov2ba x hx; (try simp at h1); first | omega | (simp <;> omega))) | (with_reducible refine OwnS.alloc ?_ _) | (with_reducible refine OwnS.drewN ?_ _) | (with_reducible refine OwnS.drew ?_) | (with_reducible refine OwnS.step (by assumption) ?_))), (fun x hx => by have h1 := gev2ba x hx; (try simp at h1); first | omega | (simp <;> omega)), (by repeat (first | (with_reducible exact Below.refl _ _) | (with_reducible assumption) | ((with_reducible refine Below.alloc ?_ ?_ _); rotate_left; (first | omega | (simp <;> omega))) | ((with_reducible refine Below.setCell ?_ ?_ _); rotate_left; (first | omega | (simp <;> omega))) | (with_reducible refine below_drewN ?_ _) | (with_reducible refine Below.drew ?_) | ((with_reducible refine Below.step (by assumption) ?_ ?_); rotate_left; (first | omega | (simp <;> omega)))))⟩
      case rest =>
        obtain ⟨u3, rfl⟩ : ∃ u3, u3 = wc := ⟨_, rfl⟩
        obtain ⟨A24a, c24a, rfl, o24a, ge24a, hb⟩ := hcut
        replace hB := Below.step hb hB hB.size
        replace ba0 := Box.step hb ba0
        replace qh0a := RS.step hb qh0a
        replace qh0b := RS.step hb qh0b
        replace o24a := OwnS.rs o24a
        have hS := Below.refl u3.heap.size u3
        have hBS := hB.size
        go_upto_region 6 with fail
        go_cut [5] (fun s5 wx => ∃ A35a c35a A35b c35b B35, s5 = .pointer (some ⟨B35, 0, none⟩) ∧ Box wx B35 [.int .i64 y0a, .int .i64 y0b, (.slice A35a y0lc.length c35a), (.slice A35b y0ld.length c35b)] ∧ u3.heap.size ≤ B35 ∧ OwnS wx 1 A35a y0lc.length c35a 3 (ints y0lc) ∧ (∀ x, x ∈ gOf A35a → u3.heap.size ≤ x) ∧ (∀ x, x ∈ gOf A35a → x ≠ B35) ∧ OwnS wx 1 A35b y0ld.length c35b 3 (ints y0ld) ∧ (∀ x, x ∈ gOf A35b → u3.heap.size ≤ x) ∧ (∀ x, x ∈ gOf A35b → x ≠ B35) ∧ (∀ x, x ∈ gOf A35a → x ∉ gOf A35b) ∧ Below u3.heap.size u3 wx)
        case first =>
          obtain ⟨zb3a, cb3a0, cb3a1, cb3a2, cb3a3⟩ := (Box.step hS ba0).open4
          go_wp2_with fail
          refine (L_toAccumM (x0 := y0a) (x1 := y0b) (l0 := y0lc) (l1 := y0ld) _ by0lc by0ld (RS.step (by repeat (first | (with_reducible exact Below.refl _ _) | (with_reducible assumption) | ((with_reducible refine Below.alloc ?_ ?_ _); rotate_left; (first | omega | (simp <;> omega))) | ((with_reducible refine Below.setCell ?_ ?_ _); rotate_left; (first | omega | (simp <;> omega))) | (with_reducible refine below_drewN ?_ _) | (with_reducible refine Below.drew ?_) | ((with_reducible refine Below.step (by assumption) ?_ ?_); rotate_left; (first | omega | (simp <;> omega))))) (RS.step hS qh0a)) (RS.step (by repeat (first | (with_reducible exact Below.refl _ _) | (with_reducible assumption) | ((with_reducible refine Below.alloc ?_ ?_ _); rotate_left; (first | omega | (simp <;> omega))) | ((with_reducible refine Below.setCell ?_ ?_ _); rotate_left; (first | omega | (simp <;> omega))) | (with_reducible refine below_drewN ?_ _) | (with_reducible refine Below.drew ?_) | ((with_reducible refine Below.step (by assumption) ?_ ?_); rotate_left; (first | omega | (simp <;> omega))))) (RS.step hS qh0b))).mono ?_
          rintro e v3a ⟨Tv3aa, kv3aa, Tv3ab, kv3ab, rfl, ov3aa, ov3ab, gev3aa, gev3ab, div3a, hbv3a⟩
          have hzv3a := hbv3a.size; (try simp at hzv3a)
          have cv3aa := fun o => hbv3a.cell (p := ⟨w.heap.size, o, none⟩) (by first | omega | (simp <;> omega))
          have zv3aa : w.heap.size < v3a.heap.size := (by first | omega | (simp <;> omega))
          have ev3aa : ¬ w.heap.size = v3a.heap.size := (by omega)
          have gv3aa : ¬ v3a.heap.size = w.heap.size := (by omega)
          go_wp2_with fail
          go_meet
          exact ⟨Tv3aa, kv3aa, Tv3ab, kv3ab, _, rfl, Box.mk4 (by first | omega | (simp <;> omega)) (by go_simp) (by go_simp) (by go_simp) (by go_simp), (by first | omega | (simp <;> omega)), (by repeat (first | (with_reducible exact ov3aa) | ((with_reducible refine OwnS.far ?_ (fun x hx => ?_) _); rotate_left; (have h1 := gev3aa x hx; have h2 := OwnS.lt ov3aa x hx; (try simp at h1); first | omega | (simp <;> omega))) | (with_reducible refine OwnS.alloc ?_ _) | (with_reducible refine OwnS.drewN ?_ _) | (with_reducible refine OwnS.drew ?_) | (with_reducible refine OwnS.step (by assumption) ?_))), (fun x hx => by have h1 := gev3aa x hx; (try simp at h1); first | omega | (simp <;> omega)), (fun x hx => by have h1 := gev3aa x hx; have h2 := OwnS.lt ov3aa x hx; (try simp at h1); first | omega | (simp <;> omega)), (by repeat (first | (with_reducible exact ov3ab) | ((with_reducible refine OwnS.far ?_ (fun x hx => ?_) _); rotate_left; (have h1 := gev3ab x hx; have h2 := OwnS.lt ov3ab x hx; (try simp at h1); first | omega | (simp <;> omega))) | (with_reducible refine OwnS.alloc ?_ _) | (with_reducible refine OwnS.drewN ?_ _) | (with_reducible refine OwnS.drew ?_) | (with_reducible refine OwnS.step (by assumption) ?_))), (fun x hx => by have h1 := gev3ab x hx; (try simp at h1); first | omega | (simp <;> omega)), (fun x hx => by have h1 := gev3ab x hx; have h2 := OwnS.lt ov3ab x hx; (try simp at h1); first | omega | (simp <;> omega)), div3a, (by repeat (first | (with_reducible exact Below.refl _ _) | (with_reducible assumption) | ((with_reducible refine Below.alloc ?_ ?_ _); rotate_left; (first | omega | (simp <;> omega))) | ((with_reducible refine Below.setCell ?_ ?_ _); rotate_left; (first | omega | (simp <;> omega))) | (with_reducible refine below_drewN ?_ _) | (with_reducible refine Below.drew ?_) | ((with_reducible refine Below.step (by assumption) ?_ ?_); rotate_left; (first | omega | (simp <;> omega)))))⟩
        case rest =>
          obtain ⟨u4, rfl⟩ : ∃ u4, u4 = wc := ⟨_, rfl⟩
          obtain ⟨A35a, c35a, A35b, c35b, B35, rfl, bx35, bg35, o35a, ge35a, ne350, o35b, ge35b, ne351, di35, hb⟩ := hcut
          replace hB := Below.step hb hB hB.size
          have hSs := hS.size
          replace hS := Below.step hb hS hS.size
          clear hb
          go_upto_region 7 with fail
          go_cut [6] (fun s6 wx => ∃ A46a c46a, s6 = (.slice A46a r0l.length c46a) ∧ OwnS wx 1 A46a r0l.length c46a 3 (ints r0l) ∧ (∀ x, x ∈ gOf A46a → u4.heap.size ≤ x) ∧ Below u4.heap.size u4 wx)
          case first =>
            obtain ⟨zb4a, cb4a0, cb4a1, cb4a2, cb4a3⟩ := bx35.open4
            go_wp2_with fail
            refine (HI.out _ _ _ _ _ (RS.step (by repeat (first | (with_reducible exact Below.refl _ _) | (with_reducible assumption) | ((with_reducible refine Below.alloc ?_ ?_ _); rotate_left; (first | omega | (simp <;> omega))) | ((with_reducible refine Below.setCell ?_ ?_ _); rotate_left; (first | omega | (simp <;> omega))) | (with_reducible refine below_drewN ?_ _) | (with_reducible refine Below.drew ?_) | ((with_reducible refine Below.step (by assumption) ?_ ?_); rotate_left; (first | omega | (simp <;> omega))))) (OwnS.rs o35a)) (RS.step (by repeat (first | (with_reducible exact Below.refl _ _) | (with_reducible assumption) | ((with_reducible refine Below.alloc ?_ ?_ _); rotate_left; (first | omega | (simp <;> omega))) | ((with_reducible refine Below.setCell ?_ ?_ _); rotate_left; (first | omega | (simp <;> omega))) | (with_reducible refine below_drewN ?_ _) | (with_reducible refine Below.drew ?_) | ((with_reducible refine Below.step (by assumption) ?_ ?_); rotate_left; (first | omega | (simp <;> omega))))) (OwnS.rs o35b))).mono ?_
            rintro e v4a ⟨Tv4aa, kv4aa, rfl, ov4aa, gev4aa, hbv4a⟩
            have hzv4a := hbv4a.size; (try simp at hzv4a)
            have cv4aa := fun o => hbv4a.cell (p := ⟨B35, o, none⟩) (by first | omega | (simp <;> omega))
            have zv4aa : B35 < v4a.heap.size := (by first | omega | (simp <;> omega))
            have ev4aa : ¬ B35 = v4a.heap.size := (by omega)
            have gv4aa : ¬ v4a.heap.size = B35 := (by omega)
            go_wp2_with fail
            go_meet
            exact ⟨Tv4aa, kv4aa, rfl, (by repeat (first | (with_reducible exact ov4aa) | ((with_reducible refine OwnS.far ?_ (fun x hx => ?_) _); rotate_left; (have h1 := gev4aa x hx; have h2 := OwnS.lt ov4aa x hx; (try simp at h1); first | omega | (simp <;> omega))) | (with_reducible refine OwnS.alloc ?_ _) | (with_reducible refine OwnS.drewN ?_ _) | (with_reducible refine OwnS.drew ?_) | (with_reducible refine OwnS.step (by assumption) ?_))), (fun x hx => by have h1 := gev4aa x hx; (try simp at h1); first | omega | (simp <;> omega)), (by repeat (first | (with_reducible exact Below.refl _ _) | (with_reducible assumption) | ((with_reducible refine Below.alloc ?_ ?_ _); rotate_left; (first | omega | (simp <;> omega))) | ((with_reducible refine Below.setCell ?_ ?_ _); rotate_left; (first | omega | (simp <;> omega))) | (with_reducible refine below_drewN ?_ _) | (with_reducible refine Below.drew ?_) | ((with_reducible refine Below.step (by assumption) ?_ ?_); rotate_left; (first | omega | (simp <;> omega)))))⟩
          case rest =>
            obtain ⟨u5, rfl⟩ : ∃ u5, u5 = wc := ⟨_, rfl⟩
            obtain ⟨A46a, c46a, rfl, o46a, ge46a, hb⟩ := hcut
            have lto35a4 := OwnS.lt o35a
            have lto35b4 := OwnS.lt o35b
            have lbbx354 := bx35.lt
            replace hB := Below.step hb hB hB.size
            have hSs := hS.size
            replace hS := Below.step hb hS hS.size
            replace bx35 := Box.step hb bx35
            replace o35a := OwnS.step hb o35a
            replace o35b := OwnS.step hb o35b
            clear hb
            go_upto_region 8 with fail
            go_cut [26] (fun sd wx => sd = .bool false ∧ Below u5.heap.size u5 wx)
            case first =>
              go_wp2_with fail
              refine (L_eqIntS _ _ _ _ _ _ _ (RS.step (by repeat (first | (with_reducible exact Below.refl _ _) | (with_reducible assumption) | ((with_reducible refine Below.alloc ?_ ?_ _); rotate_left; (first | omega | (simp <;> omega))) | ((with_reducible refine Below.setCell ?_ ?_ _); rotate_left; (first | omega | (simp <;> omega))) | (with_reducible refine below_drewN ?_ _) | (with_reducible refine Below.drew ?_) | ((with_reducible refine Below.step (by assumption) ?_ ?_); rotate_left; (first | omega | (simp <;> omega))))) (OwnS.rs o46a)) (RS.step (by repeat (first | (with_reducible exact Below.refl _ _) | (with_reducible assumption) | ((with_reducible refine Below.alloc ?_ ?_ _); rotate_left; (first | omega | (simp <;> omega))) | ((with_reducible refine Below.setCell ?_ ?_ _); rotate_left; (first | omega | (simp <;> omega))) | (with_reducible refine below_drewN ?_ _) | (with_reducible refine Below.drew ?_) | ((with_reducible refine Below.step (by assumption) ?_ ?_); rotate_left; (first | omega | (simp <;> omega))))) (RS.step hS o24a))).mono ?_
              rintro e v5a ⟨rfl, hbv5a⟩
              have hzv5a := hbv5a.size; (try simp at hzv5a)
              go_wp2_with fail
              go_meet
              exact ⟨rfl, (by repeat (first | (with_reducible exact Below.refl _ _) | (with_reducible assumption) | ((with_reducible refine Below.alloc ?_ ?_ _); rotate_left; (first | omega | (simp <;> omega))) | ((with_reducible refine Below.setCell ?_ ?_ _); rotate_left; (first | omega | (simp <;> omega))) | (with_reducible refine below_drewN ?_ _) | (with_reducible refine Below.drew ?_) | ((with_reducible refine Below.step (by assumption) ?_ ?_); rotate_left; (first | omega | (simp <;> omega)))))⟩
            case rest =>
              obtain ⟨u6, rfl⟩ : ∃ u6, u6 = wc := ⟨_, rfl⟩
              obtain ⟨rfl, hb⟩ := hcut
              replace hB := Below.step hb hB hB.size
              replace hS := Below.step hb hS hS.size
              replace bx35 := Box.step hb bx35
              replace o35a := OwnS.step hb o35a
              replace o35b := OwnS.step hb o35b
              replace o46a := OwnS.step hb o46a
              clear hb
              go_upto_region 10 with fail
              go_cut [31] (fun sd wx => sd = .bool false ∧ Below u6.heap.size u6 wx)
              case first =>
                obtain ⟨zb6a, cb6a0, cb6a1, cb6a2, cb6a3⟩ := bx35.open4
                obtain ⟨zb6b, cb6b0, cb6b1, cb6b2, cb6b3⟩ := (Box.step hS ba0).open4
                go_region_held3 (fun w' => w'.cell? ⟨B35, 0, none⟩ = some (.int .i64 y0a) ∧ w'.cell? ⟨B35, 1, none⟩ = some (.int .i64 y0b) ∧ w'.cell? ⟨B35, 2, none⟩ = some ((.slice A35a y0lc.length c35a)) ∧ w'.cell? ⟨B35, 3, none⟩ = some ((.slice A35b y0ld.length c35b)) ∧ w'.cell? ⟨w.heap.size, 0, none⟩ = some (.int .i64 y0a) ∧ w'.cell? ⟨w.heap.size, 1, none⟩ = some (.int .i64 y0b) ∧ w'.cell? ⟨w.heap.size, 2, none⟩ = some ((.slice A0a y0lc.length p0a)) ∧ w'.cell? ⟨w.heap.size, 3, none⟩ = some ((.slice A0b y0ld.length p0b)))
                  (first | ((try dsimp only); refine ⟨?_, ?_, ?_, ?_, ?_, ?_, ?_, ?_⟩ <;> (go_simp; done)) | go_keep)
                  (first | (go_at_call 57; (with_reducible refine (L_toAccumM (x0 := y0a) (x1 := y0b) (l0 := y0lc) (l1 := y0ld) _ by0lc by0ld (RS.step (by repeat (first | (with_reducible exact Below.refl _ _) | (with_reducible assumption) | ((with_reducible refine Below.alloc ?_ ?_ _); rotate_left; (first | omega | (simp <;> omega))) | ((with_reducible refine Below.setCell ?_ ?_ _); rotate_left; (first | omega | (simp <;> omega))) | (with_reducible refine below_drewN ?_ _) | (with_reducible refine Below.drew ?_) | ((with_reducible refine Below.step (by assumption) ?_ ?_); rotate_left; (first | omega | (simp <;> omega))))) (RS.step hS qh0a)) (RS.step (by repeat (first | (with_reducible exact Below.refl _ _) | (with_reducible assumption) | ((with_reducible refine Below.alloc ?_ ?_ _); rotate_left; (first | omega | (simp <;> omega))) | ((with_reducible refine Below.setCell ?_ ?_ _); rotate_left; (first | omega | (simp <;> omega))) | (with_reducible refine below_drewN ?_ _) | (with_reducible refine Below.drew ?_) | ((with_reducible refine Below.step (by assumption) ?_ ?_); rotate_left; (first | omega | (simp <;> omega))))) (RS.step hS qh0b))).mono ?_); rintro e v6a ⟨Tv6aa, kv6aa, Tv6ab, kv6ab, rfl, ov6aa, ov6ab, gev6aa, gev6ab, div6a, hbv6a⟩; have hzv6a := hbv6a.size; (try simp at hzv6a); have cv6aa := fun o => hbv6a.cell (p := ⟨B35, o, none⟩) (by first | omega | (simp <;> omega)); have zv6aa : B35 < v6a.heap.size := (by first | omega | (simp <;> omega)); have ev6aa : ¬ B35 = v6a.heap.size := (by omega); have gv6aa : ¬ v6a.heap.size = B35 := (by omega); have cv6ab := fun o => hbv6a.cell (p := ⟨w.heap.size, o, none⟩) (by first | omega | (simp <;> omega)); have zv6ab : w.heap.size < v6a.heap.size := (by first | omega | (simp <;> omega)); have ev6ab : ¬ w.heap.size = v6a.heap.size := (by omega); have gv6ab : ¬ v6a.heap.size = w.heap.size := (by omega)) | (go_at_call 60; (with_reducible refine (L_eqAccum _ (RS.step (by repeat (first | (with_reducible exact Below.refl _ _) | (with_reducible assumption) | ((with_reducible refine Below.alloc ?_ ?_ _); rotate_left; (first | omega | (simp <;> omega))) | ((with_reducible refine Below.setCell ?_ ?_ _); rotate_left; (first | omega | (simp <;> omega))) | (with_reducible refine below_drewN ?_ _) | (with_reducible refine Below.drew ?_) | ((with_reducible refine Below.step (by assumption) ?_ ?_); rotate_left; (first | omega | (simp <;> omega))))) (OwnS.rs o35a)) (RS.step (by repeat (first | (with_reducible exact Below.refl _ _) | (with_reducible assumption) | ((with_reducible refine Below.alloc ?_ ?_ _); rotate_left; (first | omega | (simp <;> omega))) | ((with_reducible refine Below.setCell ?_ ?_ _); rotate_left; (first | omega | (simp <;> omega))) | (with_reducible refine below_drewN ?_ _) | (with_reducible refine Below.drew ?_) | ((with_reducible refine Below.step (by assumption) ?_ ?_); rotate_left; (first | omega | (simp <;> omega))))) (OwnS.rs o35b)) (RS.step (by repeat (first | (with_reducible exact Below.refl _ _) | (with_reducible assumption) | ((with_reducible refine Below.alloc ?_ ?_ _); rotate_left; (first | omega | (simp <;> omega))) | ((with_reducible refine Below.setCell ?_ ?_ _); rotate_left; (first | omega | (simp <;> omega))) | (with_reducible refine below_drewN ?_ _) | (with_reducible refine Below.drew ?_) | ((with_reducible refine Below.step (by assumption) ?_ ?_); rotate_left; (first | omega | (simp <;> omega))))) (OwnS.rs ov6aa)) (RS.step (by repeat (first | (with_reducible exact Below.refl _ _) | (with_reducible assumption) | ((with_reducible refine Below.alloc ?_ ?_ _); rotate_left; (first | omega | (simp <;> omega))) | ((with_reducible refine Below.setCell ?_ ?_ _); rotate_left; (first | omega | (simp <;> omega))) | (with_reducible refine below_drewN ?_ _) | (with_reducible refine Below.drew ?_) | ((with_reducible refine Below.step (by assumption) ?_ ?_); rotate_left; (first | omega | (simp <;> omega))))) (OwnS.rs ov6ab))).mono ?_); rintro e v6b ⟨rfl, hbv6b⟩; have hzv6b := hbv6b.size; (try simp at hzv6b); have cv6ba := fun o => hbv6b.cell (p := ⟨B35, o, none⟩) (by first | omega | (simp <;> omega)); have zv6ba : B35 < v6b.heap.size := (by first | omega | (simp <;> omega)); have ev6ba : ¬ B35 = v6b.heap.size := (by omega); have gv6ba : ¬ v6b.heap.size = B35 := (by omega); have cv6bb := fun o => hbv6b.cell (p := ⟨w.heap.size, o, none⟩) (by first | omega | (simp <;> omega)); have zv6bb : w.heap.size < v6b.heap.size := (by first | omega | (simp <;> omega)); have ev6bb : ¬ w.heap.size = v6b.heap.size := (by omega); have gv6bb : ¬ v6b.heap.size = w.heap.size := (by omega)))
                all_goals
                  go_wp2_with fail
                  go_meet
                  exact ⟨rfl, (by repeat (first | (with_reducible exact Below.refl _ _) | (with_reducible assumption) | ((with_reducible refine Below.alloc ?_ ?_ _); rotate_left; (first | omega | (simp <;> omega))) | ((with_reducible refine Below.setCell ?_ ?_ _); rotate_left; (first | omega | (simp <;> omega))) | (with_reducible refine below_drewN ?_ _) | (with_reducible refine Below.drew ?_) | ((with_reducible refine Below.step (by assumption) ?_ ?_); rotate_left; (first | omega | (simp <;> omega)))))⟩
              case rest =>
                obtain ⟨u7, rfl⟩ : ∃ u7, u7 = wc := ⟨_, rfl⟩
                obtain ⟨rfl, hb⟩ := hcut
                replace hB := Below.step hb hB hB.size
                replace hS := Below.step hb hS hS.size
                replace bx35 := Box.step hb bx35
                replace o35a := OwnS.step hb o35a
                replace o35b := OwnS.step hb o35b
                replace o46a := OwnS.step hb o46a
                clear hb
                go_upto_region 13 with fail
                go_cut [7] (fun sd wx => sd = .int .i64 ((1 : Int) + (y0lc.length : Int) + (y0ld.length : Int)) ∧ OwnS wx 1 A35a y0lc.length c35a 3 (ints (upFrom (1 : Int) y0lc.length)) ∧ OwnS wx 1 A35b y0ld.length c35b 3 (ints (upFrom ((1 : Int) + (y0lc.length : Int)) y0ld.length)) ∧ Only u7.heap.size (gOf A35a ++ gOf A35b) u7 wx)
                case first =>
                  obtain ⟨zb7a, cb7a0, cb7a1, cb7a2, cb7a3⟩ := bx35.open4
                  go_wp2_with fail
                  refine (L_markAccumG _ o35a (by omega) o35b (by omega) di35 (by omega) (by omega)).mono ?_
                  rintro e v7a ⟨rfl, ov7aa, ov7ab, hOv7a⟩
                  have hzv7a := hOv7a.size
                  go_wp2_with fail
                  go_meet
                  exact ⟨rfl, ov7aa, ov7ab, hOv7a⟩
                case rest =>
                  obtain ⟨u8, rfl⟩ : ∃ u8, u8 = wc := ⟨_, rfl⟩
                  obtain ⟨rfl, nw0, nw1, hO⟩ := hcut
                  have hG : ∀ y, y ∈ gOf A35a ++ gOf A35b → u3.heap.size ≤ y := fun y hx => (List.mem_append.1 hx).elim (ge35a y) (ge35b y)
                  replace hB := hB.trans (hO.below hB.size (fun y hy => by have := hG y hy; omega))
                  replace hS := hS.trans (hO.below hS.size (fun y hy => by have := hG y hy; omega))
                  replace bx35 := Box.only hO bx35 bx35.lt (fun hy => (List.mem_append.1 hy).elim (fun h => ne350 _ h rfl) (fun h => ne351 _ h rfl))
                  have hL : ∀ y, y ∈ gOf A35a ++ gOf A35b → y < u4.heap.size := fun y hx => (List.mem_append.1 hx).elim (lto35a4 y) (lto35b4 y)
                  replace o46a := OwnS.only o46a hO (fun y hy => ⟨OwnS.lt o46a y hy, fun hx => by have h1 := hL y hx; have h2 := ge46a y hy; omega⟩)
                  clear o35a
                  have o35a := nw0
                  clear nw0
                  clear o35b
                  have o35b := nw1
                  clear nw1
                  clear hO hG
                  have t7 : ¬ (1 : Int) + (y0lc.length : Int) + (y0ld.length : Int) < 0 := by omega
                  go_upto_region 14 with fail
                  go_cut [42] (fun sd wx => sd = .bool false ∧ Below u8.heap.size u8 wx)
                  case first =>
                    go_wp2_with fail
                    refine (L_eqIntS _ _ _ _ _ _ _ (RS.step (by repeat (first | (with_reducible exact Below.refl _ _) | (with_reducible assumption) | ((with_reducible refine Below.alloc ?_ ?_ _); rotate_left; (first | omega | (simp <;> omega))) | ((with_reducible refine Below.setCell ?_ ?_ _); rotate_left; (first | omega | (simp <;> omega))) | (with_reducible refine below_drewN ?_ _) | (with_reducible refine Below.drew ?_) | ((with_reducible refine Below.step (by assumption) ?_ ?_); rotate_left; (first | omega | (simp <;> omega))))) (OwnS.rs o46a)) (RS.step (by repeat (first | (with_reducible exact Below.refl _ _) | (with_reducible assumption) | ((with_reducible refine Below.alloc ?_ ?_ _); rotate_left; (first | omega | (simp <;> omega))) | ((with_reducible refine Below.setCell ?_ ?_ _); rotate_left; (first | omega | (simp <;> omega))) | (with_reducible refine below_drewN ?_ _) | (with_reducible refine Below.drew ?_) | ((with_reducible refine Below.step (by assumption) ?_ ?_); rotate_left; (first | omega | (simp <;> omega))))) (RS.step hS o24a))).mono ?_
                    rintro e v8a ⟨rfl, hbv8a⟩
                    have hzv8a := hbv8a.size; (try simp at hzv8a)
                    go_wp2_with fail
                    go_meet
                    exact ⟨rfl, (by repeat (first | (with_reducible exact Below.refl _ _) | (with_reducible assumption) | ((with_reducible refine Below.alloc ?_ ?_ _); rotate_left; (first | omega | (simp <;> omega))) | ((with_reducible refine Below.setCell ?_ ?_ _); rotate_left; (first | omega | (simp <;> omega))) | (with_reducible refine below_drewN ?_ _) | (with_reducible refine Below.drew ?_) | ((with_reducible refine Below.step (by assumption) ?_ ?_); rotate_left; (first | omega | (simp <;> omega)))))⟩
                  case rest =>
                    obtain ⟨u9, rfl⟩ : ∃ u9, u9 = wc := ⟨_, rfl⟩
                    obtain ⟨rfl, hb⟩ := hcut
                    replace hB := Below.step hb hB hB.size
                    replace hS := Below.step hb hS hS.size
                    replace bx35 := Box.step hb bx35
                    replace o35a := OwnS.step hb o35a
                    replace o35b := OwnS.step hb o35b
                    replace o46a := OwnS.step hb o46a
                    clear hb
                    go_upto_region 17 with fail
                    go_cut [8] (fun sd wx => sd = .int .i64 ((1 : Int) + (r0l.length : Int)) ∧ OwnS wx 1 A46a r0l.length c46a 3 (ints (upFrom (1 : Int) r0l.length)) ∧ Only u9.heap.size (gOf A46a) u9 wx)
                    case first =>
                      go_wp2_with fail
                      refine (L_markIntSG _ o46a (by omega) (by omega) (by omega)).mono ?_
                      rintro e v9a ⟨rfl, ov9aa, hOv9a⟩
                      have hzv9a := hOv9a.size
                      go_wp2_with fail
                      go_meet
                      exact ⟨rfl, ov9aa, hOv9a⟩
                    case rest =>
                      obtain ⟨u10, rfl⟩ : ∃ u10, u10 = wc := ⟨_, rfl⟩
                      obtain ⟨rfl, nw0, hO⟩ := hcut
                      have hG : ∀ y, y ∈ gOf A46a → u4.heap.size ≤ y := ge46a
                      replace hB := hB.trans (hO.below hB.size (fun y hy => by have := hG y hy; omega))
                      replace hS := hS.trans (hO.below hS.size (fun y hy => by have := hG y hy; omega))
                      replace bx35 := Box.only hO bx35 bx35.lt (fun hy => by have h1 := hG _ hy; have h2 := lbbx354; omega)
                      replace o35a := OwnS.only o35a hO (fun y hy => ⟨OwnS.lt o35a y hy, fun hx => by have h1 := hG y hx; have h2 := lto35a4 y hy; omega⟩)
                      replace o35b := OwnS.only o35b hO (fun y hy => ⟨OwnS.lt o35b y hy, fun hx => by have h1 := hG y hx; have h2 := lto35b4 y hy; omega⟩)
                      clear o46a
                      have o46a := nw0
                      clear nw0
                      clear hO hG
                      have t9 : ¬ (1 : Int) + (r0l.length : Int) < 0 := by omega
                      go_upto_region 19 with fail
                      go_cut [9] (fun sd wx => sd = .int .i64 ((1 : Int) + (r0l.length : Int)) ∧ Below u10.heap.size u10 wx)
                      case first =>
                        go_wp2_with fail
                        refine (L_heldIntSG _ o46a (by omega) (by omega) (by omega)).mono ?_
                        rintro e v10a ⟨rfl, rfl⟩
                        go_wp2_with fail
                        go_meet
                        exact ⟨rfl, (by repeat (first | (with_reducible exact Below.refl _ _) | (with_reducible assumption) | ((with_reducible refine Below.alloc ?_ ?_ _); rotate_left; (first | omega | (simp <;> omega))) | ((with_reducible refine Below.setCell ?_ ?_ _); rotate_left; (first | omega | (simp <;> omega))) | (with_reducible refine below_drewN ?_ _) | (with_reducible refine Below.drew ?_) | ((with_reducible refine Below.step (by assumption) ?_ ?_); rotate_left; (first | omega | (simp <;> omega)))))⟩
                      case rest =>
                        obtain ⟨u11, rfl⟩ : ∃ u11, u11 = wc := ⟨_, rfl⟩
                        obtain ⟨rfl, hb⟩ := hcut
                        replace hB := Below.step hb hB hB.size
                        replace hS := Below.step hb hS hS.size
                        replace bx35 := Box.step hb bx35
                        replace o35a := OwnS.step hb o35a
                        replace o35b := OwnS.step hb o35b
                        replace o46a := OwnS.step hb o46a
                        clear hb
                        have t10 : ¬ (1 : Int) + (r0l.length : Int) < 0 := by omega
                        go_upto_region 24 with fail
                        go_cut [10] (fun s10 wx => ∃ A1110a c1110a, s10 = (.slice A1110a r0l.length c1110a) ∧ OwnS wx 1 A1110a r0l.length c1110a 3 (ints r0l) ∧ (∀ x, x ∈ gOf A1110a → u11.heap.size ≤ x) ∧ Below u11.heap.size u11 wx)
                        case first =>
                          obtain ⟨zb11a, cb11a0, cb11a1, cb11a2, cb11a3⟩ := (Box.step hS ba0).open4
                          go_wp2_with fail
                          refine (L_toAccumM (x0 := y0a) (x1 := y0b) (l0 := y0lc) (l1 := y0ld) _ by0lc by0ld (RS.step (by repeat (first | (with_reducible exact Below.refl _ _) | (with_reducible assumption) | ((with_reducible refine Below.alloc ?_ ?_ _); rotate_left; (first | omega | (simp <;> omega))) | ((with_reducible refine Below.setCell ?_ ?_ _); rotate_left; (first | omega | (simp <;> omega))) | (with_reducible refine below_drewN ?_ _) | (with_reducible refine Below.drew ?_) | ((with_reducible refine Below.step (by assumption) ?_ ?_); rotate_left; (first | omega | (simp <;> omega))))) (RS.step hS qh0a)) (RS.step (by repeat (first | (with_reducible exact Below.refl _ _) | (with_reducible assumption) | ((with_reducible refine Below.alloc ?_ ?_ _); rotate_left; (first | omega | (simp <;> omega))) | ((with_reducible refine Below.setCell ?_ ?_ _); rotate_left; (first | omega | (simp <;> omega))) | (with_reducible refine below_drewN ?_ _) | (with_reducible refine Below.drew ?_) | ((with_reducible refine Below.step (by assumption) ?_ ?_); rotate_left; (first | omega | (simp <;> omega))))) (RS.step hS qh0b))).mono ?_
                          rintro e v11a ⟨Tv11aa, kv11aa, Tv11ab, kv11ab, rfl, ov11aa, ov11ab, gev11aa, gev11ab, div11a, hbv11a⟩
                          have hzv11a := hbv11a.size; (try simp at hzv11a)
                          have cv11aa := fun o => hbv11a.cell (p := ⟨w.heap.size, o, none⟩) (by first | omega | (simp <;> omega))
                          have zv11aa : w.heap.size < v11a.heap.size := (by first | omega | (simp <;> omega))
                          have ev11aa : ¬ w.heap.size = v11a.heap.size := (by omega)
                          have gv11aa : ¬ v11a.heap.size = w.heap.size := (by omega)
                          go_wp2_with fail
                          refine (HI.out _ _ _ _ _ (RS.step (by repeat (first | (with_reducible exact Below.refl _ _) | (with_reducible assumption) | ((with_reducible refine Below.alloc ?_ ?_ _); rotate_left; (first | omega | (simp <;> omega))) | ((with_reducible refine Below.setCell ?_ ?_ _); rotate_left; (first | omega | (simp <;> omega))) | (with_reducible refine below_drewN ?_ _) | (with_reducible refine Below.drew ?_) | ((with_reducible refine Below.step (by assumption) ?_ ?_); rotate_left; (first | omega | (simp <;> omega))))) (OwnS.rs ov11aa)) (RS.step (by repeat (first | (with_reducible exact Below.refl _ _) | (with_reducible assumption) | ((with_reducible refine Below.alloc ?_ ?_ _); rotate_left; (first | omega | (simp <;> omega))) | ((with_reducible refine Below.setCell ?_ ?_ _); rotate_left; (first | omega | (simp <;> omega))) | (with_reducible refine below_drewN ?_ _) | (with_reducible refine Below.drew ?_) | ((with_reducible refine Below.step (by assumption) ?_ ?_); rotate_left; (first | omega | (simp <;> omega))))) (OwnS.rs ov11ab))).mono ?_
                          rintro e v11b ⟨Tv11ba, kv11ba, rfl, ov11ba, gev11ba, hbv11b⟩
                          have hzv11b := hbv11b.size; (try simp at hzv11b)
                          have cv11ba := fun o => hbv11b.cell (p := ⟨w.heap.size, o, none⟩) (by first | omega | (simp <;> omega))
                          have zv11ba : w.heap.size < v11b.heap.size := (by first | omega | (simp <;> omega))
                          have ev11ba : ¬ w.heap.size = v11b.heap.size := (by omega)
                          have gv11ba : ¬ v11b.heap.size = w.heap.size := (by omega)
                          go_wp2_with fail
                          go_meet
                          exact ⟨Tv11ba, kv11ba, rfl, (by repeat (first | (with_reducible exact ov11ba) | ((with_reducible refine OwnS.far ?_ (fun x hx => ?_) _); rotate_left; (have h1 := gev11ba x hx; have h2 := OwnS.lt ov11ba x hx; (try simp at h1); first | omega | (simp <;> omega))) | (with_reducible refine OwnS.alloc ?_ _) | (with_reducible refine OwnS.drewN ?_ _) | (with_reducible refine OwnS.drew ?_) | (with_reducible refine OwnS.step (by assumption) ?_))), (fun x hx => by have h1 := gev11ba x hx; (try simp at h1); first | omega | (simp <;> omega)), (by repeat (first | (with_reducible exact Below.refl _ _) | (with_reducible assumption) | ((with_reducible refine Below.alloc ?_ ?_ _); rotate_left; (first | omega | (simp <;> omega))) | ((with_reducible refine Below.setCell ?_ ?_ _); rotate_left; (first | omega | (simp <;> omega))) | (with_reducible refine below_drewN ?_ _) | (with_reducible refine Below.drew ?_) | ((with_reducible refine Below.step (by assumption) ?_ ?_); rotate_left; (first | omega | (simp <;> omega)))))⟩
                        case rest =>
                          obtain ⟨u12, rfl⟩ : ∃ u12, u12 = wc := ⟨_, rfl⟩
                          obtain ⟨A1110a, c1110a, rfl, o1110a, ge1110a, hb⟩ := hcut
                          have lto35a11 := OwnS.lt o35a
                          have lto35b11 := OwnS.lt o35b
                          have lbbx3511 := bx35.lt
                          have lto46a11 := OwnS.lt o46a
                          replace hB := Below.step hb hB hB.size
                          have hSs := hS.size
                          replace hS := Below.step hb hS hS.size
                          replace bx35 := Box.step hb bx35
                          replace o35a := OwnS.step hb o35a
                          replace o35b := OwnS.step hb o35b
                          replace o46a := OwnS.step hb o46a
                          clear hb
                          go_upto_region 25 with fail
                          go_cut [60] (fun sd wx => sd = .bool false ∧ Below u12.heap.size u12 wx)
                          case first =>
                            go_wp2_with fail
                            refine (L_eqIntS _ _ _ _ _ _ _ (RS.step (by repeat (first | (with_reducible exact Below.refl _ _) | (with_reducible assumption) | ((with_reducible refine Below.alloc ?_ ?_ _); rotate_left; (first | omega | (simp <;> omega))) | ((with_reducible refine Below.setCell ?_ ?_ _); rotate_left; (first | omega | (simp <;> omega))) | (with_reducible refine below_drewN ?_ _) | (with_reducible refine Below.drew ?_) | ((with_reducible refine Below.step (by assumption) ?_ ?_); rotate_left; (first | omega | (simp <;> omega))))) (OwnS.rs o1110a)) (RS.step (by repeat (first | (with_reducible exact Below.refl _ _) | (with_reducible assumption) | ((with_reducible refine Below.alloc ?_ ?_ _); rotate_left; (first | omega | (simp <;> omega))) | ((with_reducible refine Below.setCell ?_ ?_ _); rotate_left; (first | omega | (simp <;> omega))) | (with_reducible refine below_drewN ?_ _) | (with_reducible refine Below.drew ?_) | ((with_reducible refine Below.step (by assumption) ?_ ?_); rotate_left; (first | omega | (simp <;> omega))))) (RS.step hS o24a))).mono ?_
                            rintro e v12a ⟨rfl, hbv12a⟩
                            have hzv12a := hbv12a.size; (try simp at hzv12a)
                            go_wp2_with fail
                            go_meet
                            exact ⟨rfl, (by repeat (first | (with_reducible exact Below.refl _ _) | (with_reducible assumption) | ((with_reducible refine Below.alloc ?_ ?_ _); rotate_left; (first | omega | (simp <;> omega))) | ((with_reducible refine Below.setCell ?_ ?_ _); rotate_left; (first | omega | (simp <;> omega))) | (with_reducible refine below_drewN ?_ _) | (with_reducible refine Below.drew ?_) | ((with_reducible refine Below.step (by assumption) ?_ ?_); rotate_left; (first | omega | (simp <;> omega)))))⟩
                          case rest =>
                            obtain ⟨u13, rfl⟩ : ∃ u13, u13 = wc := ⟨_, rfl⟩
                            obtain ⟨rfl, hb⟩ := hcut
                            replace hB := Below.step hb hB hB.size
                            replace hS := Below.step hb hS hS.size
                            replace bx35 := Box.step hb bx35
                            replace o35a := OwnS.step hb o35a
                            replace o35b := OwnS.step hb o35b
                            replace o46a := OwnS.step hb o46a
                            replace o1110a := OwnS.step hb o1110a
                            clear hb
                            go_upto_region 28 with fail
                            go_cut [9] (fun sd wx => sd = .int .i64 ((1 : Int) + (r0l.length : Int)) ∧ Below u13.heap.size u13 wx)
                            case first =>
                              go_wp2_with fail
                              refine (L_heldIntSG _ o46a (by omega) (by omega) (by omega)).mono ?_
                              rintro e v13a ⟨rfl, rfl⟩
                              go_wp2_with fail
                              go_meet
                              exact ⟨rfl, (by repeat (first | (with_reducible exact Below.refl _ _) | (with_reducible assumption) | ((with_reducible refine Below.alloc ?_ ?_ _); rotate_left; (first | omega | (simp <;> omega))) | ((with_reducible refine Below.setCell ?_ ?_ _); rotate_left; (first | omega | (simp <;> omega))) | (with_reducible refine below_drewN ?_ _) | (with_reducible refine Below.drew ?_) | ((with_reducible refine Below.step (by assumption) ?_ ?_); rotate_left; (first | omega | (simp <;> omega)))))⟩
                            case rest =>
                              obtain ⟨u14, rfl⟩ : ∃ u14, u14 = wc := ⟨_, rfl⟩
                              obtain ⟨rfl, hb⟩ := hcut
                              replace hB := Below.step hb hB hB.size
                              replace hS := Below.step hb hS hS.size
                              replace bx35 := Box.step hb bx35
                              replace o35a := OwnS.step hb o35a
                              replace o35b := OwnS.step hb o35b
                              replace o46a := OwnS.step hb o46a
                              replace o1110a := OwnS.step hb o1110a
                              clear hb
                              have t13 : ¬ (1 : Int) + (r0l.length : Int) < 0 := by omega
                              go_wp2
                              go_ret
                              exact ⟨rfl, hB⟩
theorem L_ExResolveAccum (y0a y0b : Int) (y0lc : List Int) (y0ld : List Int) (A0a : Option Addr) (p0a : Nat) (A0b : Option Addr) (p0b : Nat) (w : World) (h0a : RS w 1 A0a y0lc.length p0a (ints y0lc)) (h0b : RS w 1 A0b y0ld.length p0b (ints y0ld)) :
    Calls Try.prog 13 #[(vAccum y0a y0b (.slice A0a y0lc.length p0a) (.slice A0b y0ld.length p0b))] w fun e w' => e = .returned (.bool true) ∧ Below w.heap.size w w' := by
  exact L_ExResolveAccum1 y0a y0b y0lc y0ld A0a p0a A0b p0b _ w h0a h0b (by have := resF_len y0a y0b y0lc y0ld; omega) (Lib.hid fun A p B q wx h h' => S_ResolveAccum wx h h') (Lib.hid fun A p B q wx h h' => I_ResolveAccum wx h h')
theorem FnExactResolveAccum_walk : LawWalk 13 [78] := by
  intro H enc W base args ds ps hA hval hlt
  obtain ⟨v0, rfl, a0⟩ := args1 hA hval
  obtain ⟨y0a, y0b, A0a, p0a, y0lc, A0b, p0b, y0ld, rfl, h0a, h0b⟩ := a0.accum
  exact L_ExResolveAccum y0a y0b y0lc y0ld A0a p0a A0b p0b W h0a h0b
end Go.Proofs.Ytndipkclmecpoaa
