/- MADE BY PROGRAM (genlaw.py). The law FnExactMissing. -/
import Derived.Test.YthfnldjldfkmnaaMissS
import Derived.Test.YthfnldjldfkmnaaMissI
import Derived.Test.YthfnldjldfkmnaaMade
import Derived.Deep.RegionHeld3
import Derived.Deep.DeepCutAuto
namespace Go.Proofs.Ythfnldjldfkmnaa
open Go.ChangeShapes Go.WideShapes Go.ChangeAt Go.RowKit
set_option linter.unusedVariables false
set_option maxRecDepth 100000
set_option maxHeartbeats 8000000 in
theorem L_ExMissing1 (y0a y0b : Int) (y0lc : List Int) (y0ld : List Bool) (A0a : Option Addr) (p0a : Nat) (A0b : Option Addr) (p0b : Nat) (y1l : List EBucket) (A1a : Option Addr) (p1a : Nat) (r0l : List Int) (w : World) (h0a : RS w 1 A0a y0lc.length p0a (ints y0lc)) (h0b : RS w 1 A0b y0ld.length p0b (bools y0ld)) (h1a : RS w 4 A1a y1l.length p1a (rBucket y1l)) (br0l' : y1l.length ≤ 1048576 → r0l.length ≤ 1048576) (HS : Hid (y1l.length ≤ 1048576 → ∀ (A0a : Option Addr) (p0a : Nat), ∀ (A0b : Option Addr) (p0b : Nat), ∀ (A1a : Option Addr) (p1a : Nat), ∀ (wx : World), RS wx 1 A0a y0lc.length p0a (ints y0lc) → RS wx 1 A0b y0ld.length p0b (bools y0ld) → RS wx 4 A1a y1l.length p1a (rBucket y1l) → Calls Try.prog 65 #[(vFilm y0a y0b (.slice A0a y0lc.length p0a) (.slice A0b y0ld.length p0b)), (.slice A1a y1l.length p1a)] wx (MadeRow 3 1 r0l.length (ints r0l) wx))) (HI : Hid (y1l.length ≤ 1048576 → ∀ (A0a : Option Addr) (p0a : Nat), ∀ (A0b : Option Addr) (p0b : Nat), ∀ (A1a : Option Addr) (p1a : Nat), ∀ (wx : World), RS wx 1 A0a y0lc.length p0a (ints y0lc) → RS wx 1 A0b y0ld.length p0b (bools y0ld) → RS wx 4 A1a y1l.length p1a (rBucket y1l) → Calls Try.prog 67 #[(vFilm y0a y0b (.slice A0a y0lc.length p0a) (.slice A0b y0ld.length p0b)), (.slice A1a y1l.length p1a)] wx (MadeRow 3 1 r0l.length (ints r0l) wx))) :
    Calls Try.prog 12 #[(vFilm y0a y0b (.slice A0a y0lc.length p0a) (.slice A0b y0ld.length p0b)), (.slice A1a y1l.length p1a)] w fun e w' => e = .returned (.bool true) ∧ Below w.heap.size w w' := by
  have mh0a := h0a.len
  have mh0b := h0b.len
  have mh1a := h1a.len
  unfold maxLen at *
  go_enter Try.func12, Try.ntmps12
  go_upto_region 1 with fail
  go_cut [5] (fun sl wx => sl = .int .i64 1048576 ∧ Box wx (w.heap.size) [.int .i64 y0a, .int .i64 y0b, (.slice A0a y0lc.length p0a), (.slice A0b y0ld.length p0b)] ∧ RS wx 1 A0a y0lc.length p0a (ints y0lc) ∧ RS wx 1 A0b y0ld.length p0b (bools y0ld) ∧ RS wx 4 A1a y1l.length p1a (rBucket y1l) ∧ Below w.heap.size w wx)
  case first =>
    go_wp2_with fail
    go_meet
    exact ⟨rfl, Box.of_own (t := 96) (by repeat (first | (exact Own.at_lit (by simp)) | (with_reducible refine Own.alloc ?_ _))), (RS.step (by repeat (first | (with_reducible exact Below.refl _ _) | (with_reducible assumption) | ((with_reducible refine Below.alloc ?_ ?_ _); rotate_left; (first | omega | (simp <;> omega))) | ((with_reducible refine Below.setCell ?_ ?_ _); rotate_left; (first | omega | (simp <;> omega))) | (with_reducible refine below_drewN ?_ _) | (with_reducible refine Below.drew ?_) | ((with_reducible refine Below.step (by assumption) ?_ ?_); rotate_left; (first | omega | (simp <;> omega))))) h0a), (RS.step (by repeat (first | (with_reducible exact Below.refl _ _) | (with_reducible assumption) | ((with_reducible refine Below.alloc ?_ ?_ _); rotate_left; (first | omega | (simp <;> omega))) | ((with_reducible refine Below.setCell ?_ ?_ _); rotate_left; (first | omega | (simp <;> omega))) | (with_reducible refine below_drewN ?_ _) | (with_reducible refine Below.drew ?_) | ((with_reducible refine Below.step (by assumption) ?_ ?_); rotate_left; (first | omega | (simp <;> omega))))) h0b), (RS.step (by repeat (first | (with_reducible exact Below.refl _ _) | (with_reducible assumption) | ((with_reducible refine Below.alloc ?_ ?_ _); rotate_left; (first | omega | (simp <;> omega))) | ((with_reducible refine Below.setCell ?_ ?_ _); rotate_left; (first | omega | (simp <;> omega))) | (with_reducible refine below_drewN ?_ _) | (with_reducible refine Below.drew ?_) | ((with_reducible refine Below.step (by assumption) ?_ ?_); rotate_left; (first | omega | (simp <;> omega))))) h1a), (by repeat (first | (with_reducible exact Below.refl _ _) | (with_reducible assumption) | ((with_reducible refine Below.alloc ?_ ?_ _); rotate_left; (first | omega | (simp <;> omega))) | ((with_reducible refine Below.setCell ?_ ?_ _); rotate_left; (first | omega | (simp <;> omega))) | (with_reducible refine below_drewN ?_ _) | (with_reducible refine Below.drew ?_) | ((with_reducible refine Below.step (by assumption) ?_ ?_); rotate_left; (first | omega | (simp <;> omega)))))⟩
  case rest =>
    obtain ⟨u1, rfl⟩ : ∃ u1, u1 = wc := ⟨_, rfl⟩
    obtain ⟨rfl, ba0, qh0a, qh0b, qh1a, hB⟩ := hcut
    go_upto_region 2 with fail
    go_cut [5] (fun sl wx => (sl = .int .i64 (-1) ∨ ∃ z : Int, sl = .int .i64 z ∧ 0 ≤ z ∧ z ≤ 1048576 ∧ (y0lc.length : Int) ≤ 1048576 ∧ (y0ld.length : Int) ≤ 1048576) ∧ Below u1.heap.size u1 wx)
    case first =>
      obtain ⟨zb1a, cb1a0, cb1a1, cb1a2, cb1a3⟩ := ba0.open4
      go_wp2_with fail
      refine (L_szFilm _ (by first | omega | assumption) (by first | omega | assumption) (by unfold maxLen; first | omega | assumption) (by unfold maxLen; first | omega | assumption)).mono ?_
      rintro e v1a ⟨rfl, hbv1a⟩
      have hzv1a := hbv1a.size; (try simp at hzv1a)
      have cv1aa := fun o => hbv1a.cell (p := ⟨w.heap.size, o, none⟩) (by first | omega | (simp <;> omega))
      have zv1aa : w.heap.size < v1a.heap.size := (by first | omega | (simp <;> omega))
      have ev1aa : ¬ w.heap.size = v1a.heap.size := (by omega)
      have gv1aa : ¬ v1a.heap.size = w.heap.size := (by omega)
      go_wp2_with fail
      go_meet
      rcases szF2_or (1048576) y0lc.length y0ld.length with hq | ⟨hq0, hq1, hq2, hq3⟩
      · exact ⟨.inl (by rw [hq]), (by repeat (first | (with_reducible exact Below.refl _ _) | (with_reducible assumption) | ((with_reducible refine Below.alloc ?_ ?_ _); rotate_left; (first | omega | (simp <;> omega))) | ((with_reducible refine Below.setCell ?_ ?_ _); rotate_left; (first | omega | (simp <;> omega))) | (with_reducible refine below_drewN ?_ _) | (with_reducible refine Below.drew ?_) | ((with_reducible refine Below.step (by assumption) ?_ ?_); rotate_left; (first | omega | (simp <;> omega)))))⟩
      · exact ⟨.inr ⟨_, rfl, hq0, hq1, hq2, hq3⟩, (by repeat (first | (with_reducible exact Below.refl _ _) | (with_reducible assumption) | ((with_reducible refine Below.alloc ?_ ?_ _); rotate_left; (first | omega | (simp <;> omega))) | ((with_reducible refine Below.setCell ?_ ?_ _); rotate_left; (first | omega | (simp <;> omega))) | (with_reducible refine below_drewN ?_ _) | (with_reducible refine Below.drew ?_) | ((with_reducible refine Below.step (by assumption) ?_ ?_); rotate_left; (first | omega | (simp <;> omega)))))⟩
    case rest =>
      obtain ⟨u2, rfl⟩ : ∃ u2, u2 = wc := ⟨_, rfl⟩
      obtain ⟨hsl, hb⟩ := hcut
      replace hB := Below.step hb hB hB.size
      replace ba0 := Box.step hb ba0
      replace qh0a := RS.step hb qh0a
      replace qh0b := RS.step hb qh0b
      replace qh1a := RS.step hb qh1a
      clear hb
      rcases hsl with rfl | ⟨z1, rfl, hz10, hz11, hz12, hz13⟩
      · go_wp2
        go_ret
        exact ⟨rfl, hB⟩
      have by0lc : y0lc.length ≤ 1048576 := by omega
      have by0ld : y0ld.length ≤ 1048576 := by omega
      have t1 : ¬ z1 < 0 := by omega
      go_upto_region 5 with fail
      go_cut [5] (fun sl wx => (sl = .int .i64 (-1) ∨ ∃ z : Int, sl = .int .i64 z ∧ 0 ≤ z ∧ z ≤ z1 ∧ (y1l.length : Int) ≤ z1) ∧ Below u2.heap.size u2 wx)
      case first =>
        go_wp2_with fail
        refine (L_szBucketS _ (by first | omega | assumption) (by first | omega | assumption) (by unfold maxLen; first | omega | assumption)).mono ?_
        rintro e v2a ⟨rfl, rfl⟩
        go_wp2_with fail
        go_meet
        rcases szF_or (z1) y1l.length with hq | ⟨hq0, hq1, hq2⟩
        · exact ⟨.inl (by rw [hq]), (by repeat (first | (with_reducible exact Below.refl _ _) | (with_reducible assumption) | ((with_reducible refine Below.alloc ?_ ?_ _); rotate_left; (first | omega | (simp <;> omega))) | ((with_reducible refine Below.setCell ?_ ?_ _); rotate_left; (first | omega | (simp <;> omega))) | (with_reducible refine below_drewN ?_ _) | (with_reducible refine Below.drew ?_) | ((with_reducible refine Below.step (by assumption) ?_ ?_); rotate_left; (first | omega | (simp <;> omega)))))⟩
        · exact ⟨.inr ⟨_, rfl, hq0, hq1, hq2⟩, (by repeat (first | (with_reducible exact Below.refl _ _) | (with_reducible assumption) | ((with_reducible refine Below.alloc ?_ ?_ _); rotate_left; (first | omega | (simp <;> omega))) | ((with_reducible refine Below.setCell ?_ ?_ _); rotate_left; (first | omega | (simp <;> omega))) | (with_reducible refine below_drewN ?_ _) | (with_reducible refine Below.drew ?_) | ((with_reducible refine Below.step (by assumption) ?_ ?_); rotate_left; (first | omega | (simp <;> omega)))))⟩
      case rest =>
        obtain ⟨u3, rfl⟩ : ∃ u3, u3 = wc := ⟨_, rfl⟩
        obtain ⟨hsl, hb⟩ := hcut
        replace hB := Below.step hb hB hB.size
        replace ba0 := Box.step hb ba0
        replace qh0a := RS.step hb qh0a
        replace qh0b := RS.step hb qh0b
        replace qh1a := RS.step hb qh1a
        clear hb
        rcases hsl with rfl | ⟨z2, rfl, hz20, hz21, hz22⟩
        · go_wp2
          go_ret
          exact ⟨rfl, hB⟩
        have by1l : y1l.length ≤ 1048576 := by omega
        have br0l := br0l' by1l
        have HS := Lib.hid (HS.out by1l)
        have HI := Lib.hid (HI.out by1l)
        have t2 : ¬ z2 < 0 := by omega
        go_upto_region 8 with fail
        go_cut [6] (fun s6 wx => ∃ A36a c36a, s6 = (.slice A36a r0l.length c36a) ∧ OwnS wx 1 A36a r0l.length c36a 3 (ints r0l) ∧ (∀ x, x ∈ gOf A36a → u3.heap.size ≤ x) ∧ Below u3.heap.size u3 wx)
        case first =>
          obtain ⟨zb3a, cb3a0, cb3a1, cb3a2, cb3a3⟩ := ba0.open4
          go_wp2_with fail
          refine (L_toFilmM (x0 := y0a) (x1 := y0b) (l0 := y0lc) (l1 := y0ld) _ by0lc by0ld (RS.step (by repeat (first | (with_reducible exact Below.refl _ _) | (with_reducible assumption) | ((with_reducible refine Below.alloc ?_ ?_ _); rotate_left; (first | omega | (simp <;> omega))) | ((with_reducible refine Below.setCell ?_ ?_ _); rotate_left; (first | omega | (simp <;> omega))) | (with_reducible refine below_drewN ?_ _) | (with_reducible refine Below.drew ?_) | ((with_reducible refine Below.step (by assumption) ?_ ?_); rotate_left; (first | omega | (simp <;> omega))))) qh0a) (RS.step (by repeat (first | (with_reducible exact Below.refl _ _) | (with_reducible assumption) | ((with_reducible refine Below.alloc ?_ ?_ _); rotate_left; (first | omega | (simp <;> omega))) | ((with_reducible refine Below.setCell ?_ ?_ _); rotate_left; (first | omega | (simp <;> omega))) | (with_reducible refine below_drewN ?_ _) | (with_reducible refine Below.drew ?_) | ((with_reducible refine Below.step (by assumption) ?_ ?_); rotate_left; (first | omega | (simp <;> omega))))) qh0b)).mono ?_
          rintro e v3a ⟨Tv3aa, kv3aa, Tv3ab, kv3ab, rfl, ov3aa, ov3ab, gev3aa, gev3ab, div3a, hbv3a⟩
          have hzv3a := hbv3a.size; (try simp at hzv3a)
          have cv3aa := fun o => hbv3a.cell (p := ⟨w.heap.size, o, none⟩) (by first | omega | (simp <;> omega))
          have zv3aa : w.heap.size < v3a.heap.size := (by first | omega | (simp <;> omega))
          have ev3aa : ¬ w.heap.size = v3a.heap.size := (by omega)
          have gv3aa : ¬ v3a.heap.size = w.heap.size := (by omega)
          go_wp2_with fail
          refine (L_toBucketSM (l := y1l) _ by1l (RS.step (by repeat (first | (with_reducible exact Below.refl _ _) | (with_reducible assumption) | ((with_reducible refine Below.alloc ?_ ?_ _); rotate_left; (first | omega | (simp <;> omega))) | ((with_reducible refine Below.setCell ?_ ?_ _); rotate_left; (first | omega | (simp <;> omega))) | (with_reducible refine below_drewN ?_ _) | (with_reducible refine Below.drew ?_) | ((with_reducible refine Below.step (by assumption) ?_ ?_); rotate_left; (first | omega | (simp <;> omega))))) qh1a)).mono ?_
          rintro e v3b ⟨Tv3ba, kv3ba, rfl, ov3ba, gev3ba, hbv3b⟩
          have hzv3b := hbv3b.size; (try simp at hzv3b)
          have cv3ba := fun o => hbv3b.cell (p := ⟨w.heap.size, o, none⟩) (by first | omega | (simp <;> omega))
          have zv3ba : w.heap.size < v3b.heap.size := (by first | omega | (simp <;> omega))
          have ev3ba : ¬ w.heap.size = v3b.heap.size := (by omega)
          have gv3ba : ¬ v3b.heap.size = w.heap.size := (by omega)
          go_wp2_with fail
          refine (HS.out _ _ _ _ _ _ _ (RS.step (by repeat (first | (with_reducible exact Below.refl _ _) | (with_reducible assumption) | ((with_reducible refine Below.alloc ?_ ?_ _); rotate_left; (first | omega | (simp <;> omega))) | ((with_reducible refine Below.setCell ?_ ?_ _); rotate_left; (first | omega | (simp <;> omega))) | (with_reducible refine below_drewN ?_ _) | (with_reducible refine Below.drew ?_) | ((with_reducible refine Below.step (by assumption) ?_ ?_); rotate_left; (first | omega | (simp <;> omega))))) (OwnS.rs ov3aa)) (RS.step (by repeat (first | (with_reducible exact Below.refl _ _) | (with_reducible assumption) | ((with_reducible refine Below.alloc ?_ ?_ _); rotate_left; (first | omega | (simp <;> omega))) | ((with_reducible refine Below.setCell ?_ ?_ _); rotate_left; (first | omega | (simp <;> omega))) | (with_reducible refine below_drewN ?_ _) | (with_reducible refine Below.drew ?_) | ((with_reducible refine Below.step (by assumption) ?_ ?_); rotate_left; (first | omega | (simp <;> omega))))) (OwnS.rs ov3ab)) (RS.step (by repeat (first | (with_reducible exact Below.refl _ _) | (with_reducible assumption) | ((with_reducible refine Below.alloc ?_ ?_ _); rotate_left; (first | omega | (simp <;> omega))) | ((with_reducible refine Below.setCell ?_ ?_ _); rotate_left; (first | omega | (simp <;> omega))) | (with_reducible refine below_drewN ?_ _) | (with_reducible refine Below.drew ?_) | ((with_reducible refine Below.step (by assumption) ?_ ?_); rotate_left; (first | omega | (simp <;> omega))))) (OwnS.rs ov3ba))).mono ?_
          rintro e v3c ⟨Tv3ca, kv3ca, rfl, ov3ca, gev3ca, hbv3c⟩
          have hzv3c := hbv3c.size; (try simp at hzv3c)
          have cv3ca := fun o => hbv3c.cell (p := ⟨w.heap.size, o, none⟩) (by first | omega | (simp <;> omega))
          have zv3ca : w.heap.size < v3c.heap.size := (by first | omega | (simp <;> omega))
          have ev3ca : ¬ w.heap.size = v3c.heap.size := (by omega)
          have gv3ca : ¬ v3c.heap.size = w.heap.size := (by omega)
          go_wp2_with fail
          go_meet
          exact ⟨Tv3ca, kv3ca, rfl, (by repeat (first | (with_reducible exact ov3ca) | ((with_reducible refine OwnS.far ?_ (fun x hx => ?_) _); rotate_left; (have h1 := gev3ca x hx; have h2 := OwnS.lt ov3ca x hx; (try simp at h1); first | omega | (simp <;> omega))) | (with_reducible refine OwnS.alloc ?_ _) | (with_reducible refine OwnS.drewN ?_ _) | (with_reducible refine OwnS.drew ?_) | (with_reducible refine OwnS.step (by assumption) ?_))), (fun x hx => by have h1 := gev3ca x hx; (try simp at h1); first | omega | (simp <;> omega)), (by repeat (first | (with_reducible exact Below.refl _ _) | (with_reducible assumption) | ((with_reducible refine Below.alloc ?_ ?_ _); rotate_left; (first | omega | (simp <;> omega))) | ((with_reducible refine Below.setCell ?_ ?_ _); rotate_left; (first | omega | (simp <;> omega))) | (with_reducible refine below_drewN ?_ _) | (with_reducible refine Below.drew ?_) | ((with_reducible refine Below.step (by assumption) ?_ ?_); rotate_left; (first | omega | (simp <;> omega)))))⟩
        case rest =>
          obtain ⟨u4, rfl⟩ : ∃ u4, u4 = wc := ⟨_, rfl⟩
          obtain ⟨A36a, c36a, rfl, o36a, ge36a, hb⟩ := hcut
          replace hB := Below.step hb hB hB.size
          replace ba0 := Box.step hb ba0
          replace qh0a := RS.step hb qh0a
          replace qh0b := RS.step hb qh0b
          replace qh1a := RS.step hb qh1a
          replace o36a := OwnS.rs o36a
          have hS := Below.refl u4.heap.size u4
          have hBS := hB.size
          go_upto_region 9 with fail
          go_cut [7] (fun s7 wx => ∃ A47a c47a A47b c47b B47, s7 = .pointer (some ⟨B47, 0, none⟩) ∧ Box wx B47 [.int .i64 y0a, .int .i64 y0b, (.slice A47a y0lc.length c47a), (.slice A47b y0ld.length c47b)] ∧ u4.heap.size ≤ B47 ∧ OwnS wx 1 A47a y0lc.length c47a 3 (ints y0lc) ∧ (∀ x, x ∈ gOf A47a → u4.heap.size ≤ x) ∧ (∀ x, x ∈ gOf A47a → x ≠ B47) ∧ OwnS wx 1 A47b y0ld.length c47b 4 (bools y0ld) ∧ (∀ x, x ∈ gOf A47b → u4.heap.size ≤ x) ∧ (∀ x, x ∈ gOf A47b → x ≠ B47) ∧ (∀ x, x ∈ gOf A47a → x ∉ gOf A47b) ∧ Below u4.heap.size u4 wx)
          case first =>
            obtain ⟨zb4a, cb4a0, cb4a1, cb4a2, cb4a3⟩ := (Box.step hS ba0).open4
            go_wp2_with fail
            refine (L_toFilmM (x0 := y0a) (x1 := y0b) (l0 := y0lc) (l1 := y0ld) _ by0lc by0ld (RS.step (by repeat (first | (with_reducible exact Below.refl _ _) | (with_reducible assumption) | ((with_reducible refine Below.alloc ?_ ?_ _); rotate_left; (first | omega | (simp <;> omega))) | ((with_reducible refine Below.setCell ?_ ?_ _); rotate_left; (first | omega | (simp <;> omega))) | (with_reducible refine below_drewN ?_ _) | (with_reducible refine Below.drew ?_) | ((with_reducible refine Below.step (by assumption) ?_ ?_); rotate_left; (first | omega | (simp <;> omega))))) (RS.step hS qh0a)) (RS.step (by repeat (first | (with_reducible exact Below.refl _ _) | (with_reducible assumption) | ((with_reducible refine Below.alloc ?_ ?_ _); rotate_left; (first | omega | (simp <;> omega))) | ((with_reducible refine Below.setCell ?_ ?_ _); rotate_left; (first | omega | (simp <;> omega))) | (with_reducible refine below_drewN ?_ _) | (with_reducible refine Below.drew ?_) | ((with_reducible refine Below.step (by assumption) ?_ ?_); rotate_left; (first | omega | (simp <;> omega))))) (RS.step hS qh0b))).mono ?_
            rintro e v4a ⟨Tv4aa, kv4aa, Tv4ab, kv4ab, rfl, ov4aa, ov4ab, gev4aa, gev4ab, div4a, hbv4a⟩
            have hzv4a := hbv4a.size; (try simp at hzv4a)
            have cv4aa := fun o => hbv4a.cell (p := ⟨w.heap.size, o, none⟩) (by first | omega | (simp <;> omega))
            have zv4aa : w.heap.size < v4a.heap.size := (by first | omega | (simp <;> omega))
            have ev4aa : ¬ w.heap.size = v4a.heap.size := (by omega)
            have gv4aa : ¬ v4a.heap.size = w.heap.size := (by omega)
            go_wp2_with fail
            go_meet
            exact ⟨Tv4aa, kv4aa, Tv4ab, kv4ab, _, rfl, Box.mk4 (by first | omega | (simp <;> omega)) (by go_simp) (by go_simp) (by go_simp) (by go_simp), (by first | omega | (simp <;> omega)), (by repeat (first | (with_reducible exact ov4aa) | ((with_reducible refine OwnS.far ?_ (fun x hx => ?_) _); rotate_left; (have h1 := gev4aa x hx; have h2 := OwnS.lt ov4aa x hx; (try simp at h1); first | omega | (simp <;> omega))) | (with_reducible refine OwnS.alloc ?_ _) | (with_reducible refine OwnS.drewN ?_ _) | (with_reducible refine OwnS.drew ?_) | (with_reducible refine OwnS.step (by assumption) ?_))), (fun x hx => by have h1 := gev4aa x hx; (try simp at h1); first | omega | (simp <;> omega)), (fun x hx => by have h1 := gev4aa x hx; have h2 := OwnS.lt ov4aa x hx; (try simp at h1); first | omega | (simp <;> omega)), (by repeat (first | (with_reducible exact ov4ab) | ((with_reducible refine OwnS.far ?_ (fun x hx => ?_) _); rotate_left; (have h1 := gev4ab x hx; have h2 := OwnS.lt ov4ab x hx; (try simp at h1); first | omega | (simp <;> omega))) | (with_reducible refine OwnS.alloc ?_ _) | (with_reducible refine OwnS.drewN ?_ _) | (with_reducible refine OwnS.drew ?_) | (with_reducible refine OwnS.step (by assumption) ?_))), (fun x hx => by have h1 := gev4ab x hx; (try simp at h1); first | omega | (simp <;> omega)), (fun x hx => by have h1 := gev4ab x hx; have h2 := OwnS.lt ov4ab x hx; (try simp at h1); first | omega | (simp <;> omega)), div4a, (by repeat (first | (with_reducible exact Below.refl _ _) | (with_reducible assumption) | ((with_reducible refine Below.alloc ?_ ?_ _); rotate_left; (first | omega | (simp <;> omega))) | ((with_reducible refine Below.setCell ?_ ?_ _); rotate_left; (first | omega | (simp <;> omega))) | (with_reducible refine below_drewN ?_ _) | (with_reducible refine Below.drew ?_) | ((with_reducible refine Below.step (by assumption) ?_ ?_); rotate_left; (first | omega | (simp <;> omega)))))⟩
          case rest =>
            obtain ⟨u5, rfl⟩ : ∃ u5, u5 = wc := ⟨_, rfl⟩
            obtain ⟨A47a, c47a, A47b, c47b, B47, rfl, bx47, bg47, o47a, ge47a, ne470, o47b, ge47b, ne471, di47, hb⟩ := hcut
            replace hB := Below.step hb hB hB.size
            have hSs := hS.size
            replace hS := Below.step hb hS hS.size
            clear hb
            go_upto_region 10 with fail
            go_cut [8] (fun s8 wx => ∃ A58a c58a, s8 = (.slice A58a y1l.length c58a) ∧ OwnS wx 4 A58a y1l.length c58a 55 (rBucket y1l) ∧ (∀ x, x ∈ gOf A58a → u5.heap.size ≤ x) ∧ Below u5.heap.size u5 wx)
            case first =>
              go_wp2_with fail
              refine (L_toBucketSM (l := y1l) _ by1l (RS.step (by repeat (first | (with_reducible exact Below.refl _ _) | (with_reducible assumption) | ((with_reducible refine Below.alloc ?_ ?_ _); rotate_left; (first | omega | (simp <;> omega))) | ((with_reducible refine Below.setCell ?_ ?_ _); rotate_left; (first | omega | (simp <;> omega))) | (with_reducible refine below_drewN ?_ _) | (with_reducible refine Below.drew ?_) | ((with_reducible refine Below.step (by assumption) ?_ ?_); rotate_left; (first | omega | (simp <;> omega))))) (RS.step hS qh1a))).mono ?_
              rintro e v5a ⟨Tv5aa, kv5aa, rfl, ov5aa, gev5aa, hbv5a⟩
              have hzv5a := hbv5a.size; (try simp at hzv5a)
              go_wp2_with fail
              go_meet
              exact ⟨Tv5aa, kv5aa, rfl, (by repeat (first | (with_reducible exact ov5aa) | ((with_reducible refine OwnS.far ?_ (fun x hx => ?_) _); rotate_left; (have h1 := gev5aa x hx; have h2 := OwnS.lt ov5aa x hx; (try simp at h1); first | omega | (simp <;> omega))) | (with_reducible refine OwnS.alloc ?_ _) | (with_reducible refine OwnS.drewN ?_ _) | (with_reducible refine OwnS.drew ?_) | (with_reducible refine OwnS.step (by assumption) ?_))), (fun x hx => by have h1 := gev5aa x hx; (try simp at h1); first | omega | (simp <;> omega)), (by repeat (first | (with_reducible exact Below.refl _ _) | (with_reducible assumption) | ((with_reducible refine Below.alloc ?_ ?_ _); rotate_left; (first | omega | (simp <;> omega))) | ((with_reducible refine Below.setCell ?_ ?_ _); rotate_left; (first | omega | (simp <;> omega))) | (with_reducible refine below_drewN ?_ _) | (with_reducible refine Below.drew ?_) | ((with_reducible refine Below.step (by assumption) ?_ ?_); rotate_left; (first | omega | (simp <;> omega)))))⟩
            case rest =>
              obtain ⟨u6, rfl⟩ : ∃ u6, u6 = wc := ⟨_, rfl⟩
              obtain ⟨A58a, c58a, rfl, o58a, ge58a, hb⟩ := hcut
              have lto47a5 := OwnS.lt o47a
              have lto47b5 := OwnS.lt o47b
              have lbbx475 := bx47.lt
              replace hB := Below.step hb hB hB.size
              have hSs := hS.size
              replace hS := Below.step hb hS hS.size
              replace bx47 := Box.step hb bx47
              replace o47a := OwnS.step hb o47a
              replace o47b := OwnS.step hb o47b
              clear hb
              go_upto_region 11 with fail
              go_cut [9] (fun s9 wx => ∃ A69a c69a, s9 = (.slice A69a r0l.length c69a) ∧ OwnS wx 1 A69a r0l.length c69a 3 (ints r0l) ∧ (∀ x, x ∈ gOf A69a → u6.heap.size ≤ x) ∧ Below u6.heap.size u6 wx)
              case first =>
                obtain ⟨zb6a, cb6a0, cb6a1, cb6a2, cb6a3⟩ := bx47.open4
                go_wp2_with fail
                refine (HI.out _ _ _ _ _ _ _ (RS.step (by repeat (first | (with_reducible exact Below.refl _ _) | (with_reducible assumption) | ((with_reducible refine Below.alloc ?_ ?_ _); rotate_left; (first | omega | (simp <;> omega))) | ((with_reducible refine Below.setCell ?_ ?_ _); rotate_left; (first | omega | (simp <;> omega))) | (with_reducible refine below_drewN ?_ _) | (with_reducible refine Below.drew ?_) | ((with_reducible refine Below.step (by assumption) ?_ ?_); rotate_left; (first | omega | (simp <;> omega))))) (OwnS.rs o47a)) (RS.step (by repeat (first | (with_reducible exact Below.refl _ _) | (with_reducible assumption) | ((with_reducible refine Below.alloc ?_ ?_ _); rotate_left; (first | omega | (simp <;> omega))) | ((with_reducible refine Below.setCell ?_ ?_ _); rotate_left; (first | omega | (simp <;> omega))) | (with_reducible refine below_drewN ?_ _) | (with_reducible refine Below.drew ?_) | ((with_reducible refine Below.step (by assumption) ?_ ?_); rotate_left; (first | omega | (simp <;> omega))))) (OwnS.rs o47b)) (RS.step (by repeat (first | (with_reducible exact Below.refl _ _) | (with_reducible assumption) | ((with_reducible refine Below.alloc ?_ ?_ _); rotate_left; (first | omega | (simp <;> omega))) | ((with_reducible refine Below.setCell ?_ ?_ _); rotate_left; (first | omega | (simp <;> omega))) | (with_reducible refine below_drewN ?_ _) | (with_reducible refine Below.drew ?_) | ((with_reducible refine Below.step (by assumption) ?_ ?_); rotate_left; (first | omega | (simp <;> omega))))) (OwnS.rs o58a))).mono ?_
                rintro e v6a ⟨Tv6aa, kv6aa, rfl, ov6aa, gev6aa, hbv6a⟩
                have hzv6a := hbv6a.size; (try simp at hzv6a)
                have cv6aa := fun o => hbv6a.cell (p := ⟨B47, o, none⟩) (by first | omega | (simp <;> omega))
                have zv6aa : B47 < v6a.heap.size := (by first | omega | (simp <;> omega))
                have ev6aa : ¬ B47 = v6a.heap.size := (by omega)
                have gv6aa : ¬ v6a.heap.size = B47 := (by omega)
                go_wp2_with fail
                go_meet
                exact ⟨Tv6aa, kv6aa, rfl, (by repeat (first | (with_reducible exact ov6aa) | ((with_reducible refine OwnS.far ?_ (fun x hx => ?_) _); rotate_left; (have h1 := gev6aa x hx; have h2 := OwnS.lt ov6aa x hx; (try simp at h1); first | omega | (simp <;> omega))) | (with_reducible refine OwnS.alloc ?_ _) | (with_reducible refine OwnS.drewN ?_ _) | (with_reducible refine OwnS.drew ?_) | (with_reducible refine OwnS.step (by assumption) ?_))), (fun x hx => by have h1 := gev6aa x hx; (try simp at h1); first | omega | (simp <;> omega)), (by repeat (first | (with_reducible exact Below.refl _ _) | (with_reducible assumption) | ((with_reducible refine Below.alloc ?_ ?_ _); rotate_left; (first | omega | (simp <;> omega))) | ((with_reducible refine Below.setCell ?_ ?_ _); rotate_left; (first | omega | (simp <;> omega))) | (with_reducible refine below_drewN ?_ _) | (with_reducible refine Below.drew ?_) | ((with_reducible refine Below.step (by assumption) ?_ ?_); rotate_left; (first | omega | (simp <;> omega)))))⟩
              case rest =>
                obtain ⟨u7, rfl⟩ : ∃ u7, u7 = wc := ⟨_, rfl⟩
                obtain ⟨A69a, c69a, rfl, o69a, ge69a, hb⟩ := hcut
                have lto47a6 := OwnS.lt o47a
                have lto47b6 := OwnS.lt o47b
                have lbbx476 := bx47.lt
                have lto58a6 := OwnS.lt o58a
                replace hB := Below.step hb hB hB.size
                have hSs := hS.size
                replace hS := Below.step hb hS hS.size
                replace bx47 := Box.step hb bx47
                replace o47a := OwnS.step hb o47a
                replace o47b := OwnS.step hb o47b
                replace o58a := OwnS.step hb o58a
                clear hb
                go_upto_region 12 with fail
                go_cut [39] (fun sd wx => sd = .bool false ∧ Below u7.heap.size u7 wx)
                case first =>
                  go_wp2_with fail
                  refine (L_eqIntS _ _ _ _ _ _ _ (RS.step (by repeat (first | (with_reducible exact Below.refl _ _) | (with_reducible assumption) | ((with_reducible refine Below.alloc ?_ ?_ _); rotate_left; (first | omega | (simp <;> omega))) | ((with_reducible refine Below.setCell ?_ ?_ _); rotate_left; (first | omega | (simp <;> omega))) | (with_reducible refine below_drewN ?_ _) | (with_reducible refine Below.drew ?_) | ((with_reducible refine Below.step (by assumption) ?_ ?_); rotate_left; (first | omega | (simp <;> omega))))) (OwnS.rs o69a)) (RS.step (by repeat (first | (with_reducible exact Below.refl _ _) | (with_reducible assumption) | ((with_reducible refine Below.alloc ?_ ?_ _); rotate_left; (first | omega | (simp <;> omega))) | ((with_reducible refine Below.setCell ?_ ?_ _); rotate_left; (first | omega | (simp <;> omega))) | (with_reducible refine below_drewN ?_ _) | (with_reducible refine Below.drew ?_) | ((with_reducible refine Below.step (by assumption) ?_ ?_); rotate_left; (first | omega | (simp <;> omega))))) (RS.step hS o36a))).mono ?_
                  rintro e v7a ⟨rfl, hbv7a⟩
                  have hzv7a := hbv7a.size; (try simp at hzv7a)
                  go_wp2_with fail
                  go_meet
                  exact ⟨rfl, (by repeat (first | (with_reducible exact Below.refl _ _) | (with_reducible assumption) | ((with_reducible refine Below.alloc ?_ ?_ _); rotate_left; (first | omega | (simp <;> omega))) | ((with_reducible refine Below.setCell ?_ ?_ _); rotate_left; (first | omega | (simp <;> omega))) | (with_reducible refine below_drewN ?_ _) | (with_reducible refine Below.drew ?_) | ((with_reducible refine Below.step (by assumption) ?_ ?_); rotate_left; (first | omega | (simp <;> omega)))))⟩
                case rest =>
                  obtain ⟨u8, rfl⟩ : ∃ u8, u8 = wc := ⟨_, rfl⟩
                  obtain ⟨rfl, hb⟩ := hcut
                  replace hB := Below.step hb hB hB.size
                  replace hS := Below.step hb hS hS.size
                  replace bx47 := Box.step hb bx47
                  replace o47a := OwnS.step hb o47a
                  replace o47b := OwnS.step hb o47b
                  replace o58a := OwnS.step hb o58a
                  replace o69a := OwnS.step hb o69a
                  clear hb
                  go_upto_region 14 with fail
                  go_cut [44] (fun sd wx => sd = .bool false ∧ Below u8.heap.size u8 wx)
                  case first =>
                    obtain ⟨zb8a, cb8a0, cb8a1, cb8a2, cb8a3⟩ := bx47.open4
                    obtain ⟨zb8b, cb8b0, cb8b1, cb8b2, cb8b3⟩ := (Box.step hS ba0).open4
                    go_region_held3 (fun w' => w'.cell? ⟨B47, 0, none⟩ = some (.int .i64 y0a) ∧ w'.cell? ⟨B47, 1, none⟩ = some (.int .i64 y0b) ∧ w'.cell? ⟨B47, 2, none⟩ = some ((.slice A47a y0lc.length c47a)) ∧ w'.cell? ⟨B47, 3, none⟩ = some ((.slice A47b y0ld.length c47b)) ∧ w'.cell? ⟨w.heap.size, 0, none⟩ = some (.int .i64 y0a) ∧ w'.cell? ⟨w.heap.size, 1, none⟩ = some (.int .i64 y0b) ∧ w'.cell? ⟨w.heap.size, 2, none⟩ = some ((.slice A0a y0lc.length p0a)) ∧ w'.cell? ⟨w.heap.size, 3, none⟩ = some ((.slice A0b y0ld.length p0b)))
                      (first | ((try dsimp only); refine ⟨?_, ?_, ?_, ?_, ?_, ?_, ?_, ?_⟩ <;> (go_simp; done)) | go_keep)
                      (first | (go_at_call 59; (with_reducible refine (L_toFilmM (x0 := y0a) (x1 := y0b) (l0 := y0lc) (l1 := y0ld) _ by0lc by0ld (RS.step (by repeat (first | (with_reducible exact Below.refl _ _) | (with_reducible assumption) | ((with_reducible refine Below.alloc ?_ ?_ _); rotate_left; (first | omega | (simp <;> omega))) | ((with_reducible refine Below.setCell ?_ ?_ _); rotate_left; (first | omega | (simp <;> omega))) | (with_reducible refine below_drewN ?_ _) | (with_reducible refine Below.drew ?_) | ((with_reducible refine Below.step (by assumption) ?_ ?_); rotate_left; (first | omega | (simp <;> omega))))) (RS.step hS qh0a)) (RS.step (by repeat (first | (with_reducible exact Below.refl _ _) | (with_reducible assumption) | ((with_reducible refine Below.alloc ?_ ?_ _); rotate_left; (first | omega | (simp <;> omega))) | ((with_reducible refine Below.setCell ?_ ?_ _); rotate_left; (first | omega | (simp <;> omega))) | (with_reducible refine below_drewN ?_ _) | (with_reducible refine Below.drew ?_) | ((with_reducible refine Below.step (by assumption) ?_ ?_); rotate_left; (first | omega | (simp <;> omega))))) (RS.step hS qh0b))).mono ?_); rintro e v8a ⟨Tv8aa, kv8aa, Tv8ab, kv8ab, rfl, ov8aa, ov8ab, gev8aa, gev8ab, div8a, hbv8a⟩; have hzv8a := hbv8a.size; (try simp at hzv8a); have cv8aa := fun o => hbv8a.cell (p := ⟨B47, o, none⟩) (by first | omega | (simp <;> omega)); have zv8aa : B47 < v8a.heap.size := (by first | omega | (simp <;> omega)); have ev8aa : ¬ B47 = v8a.heap.size := (by omega); have gv8aa : ¬ v8a.heap.size = B47 := (by omega); have cv8ab := fun o => hbv8a.cell (p := ⟨w.heap.size, o, none⟩) (by first | omega | (simp <;> omega)); have zv8ab : w.heap.size < v8a.heap.size := (by first | omega | (simp <;> omega)); have ev8ab : ¬ w.heap.size = v8a.heap.size := (by omega); have gv8ab : ¬ v8a.heap.size = w.heap.size := (by omega)) | (go_at_call 61; (with_reducible refine (L_eqFilm _ (RS.step (by repeat (first | (with_reducible exact Below.refl _ _) | (with_reducible assumption) | ((with_reducible refine Below.alloc ?_ ?_ _); rotate_left; (first | omega | (simp <;> omega))) | ((with_reducible refine Below.setCell ?_ ?_ _); rotate_left; (first | omega | (simp <;> omega))) | (with_reducible refine below_drewN ?_ _) | (with_reducible refine Below.drew ?_) | ((with_reducible refine Below.step (by assumption) ?_ ?_); rotate_left; (first | omega | (simp <;> omega))))) (OwnS.rs o47a)) (RS.step (by repeat (first | (with_reducible exact Below.refl _ _) | (with_reducible assumption) | ((with_reducible refine Below.alloc ?_ ?_ _); rotate_left; (first | omega | (simp <;> omega))) | ((with_reducible refine Below.setCell ?_ ?_ _); rotate_left; (first | omega | (simp <;> omega))) | (with_reducible refine below_drewN ?_ _) | (with_reducible refine Below.drew ?_) | ((with_reducible refine Below.step (by assumption) ?_ ?_); rotate_left; (first | omega | (simp <;> omega))))) (OwnS.rs o47b)) (RS.step (by repeat (first | (with_reducible exact Below.refl _ _) | (with_reducible assumption) | ((with_reducible refine Below.alloc ?_ ?_ _); rotate_left; (first | omega | (simp <;> omega))) | ((with_reducible refine Below.setCell ?_ ?_ _); rotate_left; (first | omega | (simp <;> omega))) | (with_reducible refine below_drewN ?_ _) | (with_reducible refine Below.drew ?_) | ((with_reducible refine Below.step (by assumption) ?_ ?_); rotate_left; (first | omega | (simp <;> omega))))) (OwnS.rs ov8aa)) (RS.step (by repeat (first | (with_reducible exact Below.refl _ _) | (with_reducible assumption) | ((with_reducible refine Below.alloc ?_ ?_ _); rotate_left; (first | omega | (simp <;> omega))) | ((with_reducible refine Below.setCell ?_ ?_ _); rotate_left; (first | omega | (simp <;> omega))) | (with_reducible refine below_drewN ?_ _) | (with_reducible refine Below.drew ?_) | ((with_reducible refine Below.step (by assumption) ?_ ?_); rotate_left; (first | omega | (simp <;> omega))))) (OwnS.rs ov8ab))).mono ?_); rintro e v8b ⟨rfl, hbv8b⟩; have hzv8b := hbv8b.size; (try simp at hzv8b); have cv8ba := fun o => hbv8b.cell (p := ⟨B47, o, none⟩) (by first | omega | (simp <;> omega)); have zv8ba : B47 < v8b.heap.size := (by first | omega | (simp <;> omega)); have ev8ba : ¬ B47 = v8b.heap.size := (by omega); have gv8ba : ¬ v8b.heap.size = B47 := (by omega); have cv8bb := fun o => hbv8b.cell (p := ⟨w.heap.size, o, none⟩) (by first | omega | (simp <;> omega)); have zv8bb : w.heap.size < v8b.heap.size := (by first | omega | (simp <;> omega)); have ev8bb : ¬ w.heap.size = v8b.heap.size := (by omega); have gv8bb : ¬ v8b.heap.size = w.heap.size := (by omega)))
                    all_goals
                      go_wp2_with fail
                      go_meet
                      exact ⟨rfl, (by repeat (first | (with_reducible exact Below.refl _ _) | (with_reducible assumption) | ((with_reducible refine Below.alloc ?_ ?_ _); rotate_left; (first | omega | (simp <;> omega))) | ((with_reducible refine Below.setCell ?_ ?_ _); rotate_left; (first | omega | (simp <;> omega))) | (with_reducible refine below_drewN ?_ _) | (with_reducible refine Below.drew ?_) | ((with_reducible refine Below.step (by assumption) ?_ ?_); rotate_left; (first | omega | (simp <;> omega)))))⟩
                  case rest =>
                    obtain ⟨u9, rfl⟩ : ∃ u9, u9 = wc := ⟨_, rfl⟩
                    obtain ⟨rfl, hb⟩ := hcut
                    replace hB := Below.step hb hB hB.size
                    replace hS := Below.step hb hS hS.size
                    replace bx47 := Box.step hb bx47
                    replace o47a := OwnS.step hb o47a
                    replace o47b := OwnS.step hb o47b
                    replace o58a := OwnS.step hb o58a
                    replace o69a := OwnS.step hb o69a
                    clear hb
                    go_upto_region 16 with fail
                    go_cut [49] (fun sd wx => sd = .bool false ∧ Below u9.heap.size u9 wx)
                    case first =>
                      go_wp2_with fail
                      refine (L_toBucketSM (l := y1l) _ by1l (RS.step (by repeat (first | (with_reducible exact Below.refl _ _) | (with_reducible assumption) | ((with_reducible refine Below.alloc ?_ ?_ _); rotate_left; (first | omega | (simp <;> omega))) | ((with_reducible refine Below.setCell ?_ ?_ _); rotate_left; (first | omega | (simp <;> omega))) | (with_reducible refine below_drewN ?_ _) | (with_reducible refine Below.drew ?_) | ((with_reducible refine Below.step (by assumption) ?_ ?_); rotate_left; (first | omega | (simp <;> omega))))) (RS.step hS qh1a))).mono ?_
                      rintro e v9a ⟨Tv9aa, kv9aa, rfl, ov9aa, gev9aa, hbv9a⟩
                      have hzv9a := hbv9a.size; (try simp at hzv9a)
                      go_wp2_with fail
                      refine (L_eqBucketS _ (RS.step (by repeat (first | (with_reducible exact Below.refl _ _) | (with_reducible assumption) | ((with_reducible refine Below.alloc ?_ ?_ _); rotate_left; (first | omega | (simp <;> omega))) | ((with_reducible refine Below.setCell ?_ ?_ _); rotate_left; (first | omega | (simp <;> omega))) | (with_reducible refine below_drewN ?_ _) | (with_reducible refine Below.drew ?_) | ((with_reducible refine Below.step (by assumption) ?_ ?_); rotate_left; (first | omega | (simp <;> omega))))) (OwnS.rs o58a)) (RS.step (by repeat (first | (with_reducible exact Below.refl _ _) | (with_reducible assumption) | ((with_reducible refine Below.alloc ?_ ?_ _); rotate_left; (first | omega | (simp <;> omega))) | ((with_reducible refine Below.setCell ?_ ?_ _); rotate_left; (first | omega | (simp <;> omega))) | (with_reducible refine below_drewN ?_ _) | (with_reducible refine Below.drew ?_) | ((with_reducible refine Below.step (by assumption) ?_ ?_); rotate_left; (first | omega | (simp <;> omega))))) (OwnS.rs ov9aa))).mono ?_
                      rintro e v9b ⟨rfl, hbv9b⟩
                      have hzv9b := hbv9b.size; (try simp at hzv9b)
                      go_wp2_with fail
                      go_meet
                      exact ⟨rfl, (by repeat (first | (with_reducible exact Below.refl _ _) | (with_reducible assumption) | ((with_reducible refine Below.alloc ?_ ?_ _); rotate_left; (first | omega | (simp <;> omega))) | ((with_reducible refine Below.setCell ?_ ?_ _); rotate_left; (first | omega | (simp <;> omega))) | (with_reducible refine below_drewN ?_ _) | (with_reducible refine Below.drew ?_) | ((with_reducible refine Below.step (by assumption) ?_ ?_); rotate_left; (first | omega | (simp <;> omega)))))⟩
                    case rest =>
                      obtain ⟨u10, rfl⟩ : ∃ u10, u10 = wc := ⟨_, rfl⟩
                      obtain ⟨rfl, hb⟩ := hcut
                      replace hB := Below.step hb hB hB.size
                      replace hS := Below.step hb hS hS.size
                      replace bx47 := Box.step hb bx47
                      replace o47a := OwnS.step hb o47a
                      replace o47b := OwnS.step hb o47b
                      replace o58a := OwnS.step hb o58a
                      replace o69a := OwnS.step hb o69a
                      clear hb
                      go_upto_region 19 with fail
                      go_cut [10] (fun sd wx => sd = .int .i64 ((1 : Int) + (y0lc.length : Int) + (y0ld.length : Int)) ∧ OwnS wx 1 A47a y0lc.length c47a 3 (ints (upFrom (1 : Int) y0lc.length)) ∧ OwnS wx 1 A47b y0ld.length c47b 4 (bools (thirds ((1 : Int) + (y0lc.length : Int)) y0ld.length)) ∧ Only u10.heap.size (gOf A47a ++ gOf A47b) u10 wx)
                      case first =>
                        obtain ⟨zb10a, cb10a0, cb10a1, cb10a2, cb10a3⟩ := bx47.open4
                        go_wp2_with fail
                        refine (L_markFilmG _ o47a (by omega) o47b (by omega) di47 (by omega) (by omega)).mono ?_
                        rintro e v10a ⟨rfl, ov10aa, ov10ab, hOv10a⟩
                        have hzv10a := hOv10a.size
                        go_wp2_with fail
                        go_meet
                        exact ⟨rfl, ov10aa, ov10ab, hOv10a⟩
                      case rest =>
                        obtain ⟨u11, rfl⟩ : ∃ u11, u11 = wc := ⟨_, rfl⟩
                        obtain ⟨rfl, nw0, nw1, hO⟩ := hcut
                        have hG : ∀ y, y ∈ gOf A47a ++ gOf A47b → u4.heap.size ≤ y := fun y hx => (List.mem_append.1 hx).elim (ge47a y) (ge47b y)
                        replace hB := hB.trans (hO.below hB.size (fun y hy => by have := hG y hy; omega))
                        replace hS := hS.trans (hO.below hS.size (fun y hy => by have := hG y hy; omega))
                        replace bx47 := Box.only hO bx47 bx47.lt (fun hy => (List.mem_append.1 hy).elim (fun h => ne470 _ h rfl) (fun h => ne471 _ h rfl))
                        have hL : ∀ y, y ∈ gOf A47a ++ gOf A47b → y < u5.heap.size := fun y hx => (List.mem_append.1 hx).elim (lto47a5 y) (lto47b5 y)
                        replace o58a := OwnS.only o58a hO (fun y hy => ⟨OwnS.lt o58a y hy, fun hx => by have h1 := hL y hx; have h2 := ge58a y hy; omega⟩)
                        have hL : ∀ y, y ∈ gOf A47a ++ gOf A47b → y < u6.heap.size := fun y hx => (List.mem_append.1 hx).elim (lto47a6 y) (lto47b6 y)
                        replace o69a := OwnS.only o69a hO (fun y hy => ⟨OwnS.lt o69a y hy, fun hx => by have h1 := hL y hx; have h2 := ge69a y hy; omega⟩)
                        clear o47a
                        have o47a := nw0
                        clear nw0
                        clear o47b
                        have o47b := nw1
                        clear nw1
                        clear hO hG
                        have t10 : ¬ (1 : Int) + (y0lc.length : Int) + (y0ld.length : Int) < 0 := by omega
                        go_upto_region 20 with fail
                        go_cut [10] (fun sd wx => sd = .int .i64 (((1 : Int) + (y0lc.length : Int) + (y0ld.length : Int)) + 4 * (y1l.length : Int)) ∧ OwnS wx 4 A58a y1l.length c58a 55 (ints (upFrom ((1 : Int) + (y0lc.length : Int) + (y0ld.length : Int)) (y1l.length * 4))) ∧ Only u11.heap.size (gOf A58a) u11 wx)
                        case first =>
                          go_wp2_with fail
                          refine (L_markBucketSG _ o58a (by omega) (by omega) (by omega)).mono ?_
                          rintro e v11a ⟨rfl, ov11aa, hOv11a⟩
                          have hzv11a := hOv11a.size
                          go_wp2_with fail
                          go_meet
                          exact ⟨rfl, ov11aa, hOv11a⟩
                        case rest =>
                          obtain ⟨u12, rfl⟩ : ∃ u12, u12 = wc := ⟨_, rfl⟩
                          obtain ⟨rfl, nw0, hO⟩ := hcut
                          have hG : ∀ y, y ∈ gOf A58a → u5.heap.size ≤ y := ge58a
                          replace hB := hB.trans (hO.below hB.size (fun y hy => by have := hG y hy; omega))
                          replace hS := hS.trans (hO.below hS.size (fun y hy => by have := hG y hy; omega))
                          replace bx47 := Box.only hO bx47 bx47.lt (fun hy => by have h1 := hG _ hy; have h2 := lbbx475; omega)
                          replace o47a := OwnS.only o47a hO (fun y hy => ⟨OwnS.lt o47a y hy, fun hx => by have h1 := hG y hx; have h2 := lto47a5 y hy; omega⟩)
                          replace o47b := OwnS.only o47b hO (fun y hy => ⟨OwnS.lt o47b y hy, fun hx => by have h1 := hG y hx; have h2 := lto47b5 y hy; omega⟩)
                          have hL : ∀ y, y ∈ gOf A58a → y < u6.heap.size := lto58a6
                          replace o69a := OwnS.only o69a hO (fun y hy => ⟨OwnS.lt o69a y hy, fun hx => by have h1 := hL y hx; have h2 := ge69a y hy; omega⟩)
                          clear o58a
                          have o58a := nw0
                          clear nw0
                          clear hO hG
                          have t11 : ¬ ((1 : Int) + (y0lc.length : Int) + (y0ld.length : Int)) + 4 * (y1l.length : Int) < 0 := by omega
                          go_upto_region 21 with fail
                          go_cut [63] (fun sd wx => sd = .bool false ∧ Below u12.heap.size u12 wx)
                          case first =>
                            go_wp2_with fail
                            refine (L_eqIntS _ _ _ _ _ _ _ (RS.step (by repeat (first | (with_reducible exact Below.refl _ _) | (with_reducible assumption) | ((with_reducible refine Below.alloc ?_ ?_ _); rotate_left; (first | omega | (simp <;> omega))) | ((with_reducible refine Below.setCell ?_ ?_ _); rotate_left; (first | omega | (simp <;> omega))) | (with_reducible refine below_drewN ?_ _) | (with_reducible refine Below.drew ?_) | ((with_reducible refine Below.step (by assumption) ?_ ?_); rotate_left; (first | omega | (simp <;> omega))))) (OwnS.rs o69a)) (RS.step (by repeat (first | (with_reducible exact Below.refl _ _) | (with_reducible assumption) | ((with_reducible refine Below.alloc ?_ ?_ _); rotate_left; (first | omega | (simp <;> omega))) | ((with_reducible refine Below.setCell ?_ ?_ _); rotate_left; (first | omega | (simp <;> omega))) | (with_reducible refine below_drewN ?_ _) | (with_reducible refine Below.drew ?_) | ((with_reducible refine Below.step (by assumption) ?_ ?_); rotate_left; (first | omega | (simp <;> omega))))) (RS.step hS o36a))).mono ?_
                            rintro e v12a ⟨rfl, hbv12a⟩
                            have hzv12a := hbv12a.size; (try simp at hzv12a)
                            go_wp2_with fail
                            go_meet
                            exact ⟨rfl, (by repeat (first | (with_reducible exact Below.refl _ _) | (with_reducible assumption) | ((with_reducible refine Below.alloc ?_ ?_ _); rotate_left; (first | omega | (simp <;> omega))) | ((with_reducible refine Below.setCell ?_ ?_ _); rotate_left; (first | omega | (simp <;> omega))) | (with_reducible refine below_drewN ?_ _) | (with_reducible refine Below.drew ?_) | ((with_reducible refine Below.step (by assumption) ?_ ?_); rotate_left; (first | omega | (simp <;> omega)))))⟩
                          case rest =>
                            obtain ⟨u13, rfl⟩ : ∃ u13, u13 = wc := ⟨_, rfl⟩
                            obtain ⟨rfl, hb⟩ := hcut
                            replace hB := Below.step hb hB hB.size
                            replace hS := Below.step hb hS hS.size
                            replace bx47 := Box.step hb bx47
                            replace o47a := OwnS.step hb o47a
                            replace o47b := OwnS.step hb o47b
                            replace o58a := OwnS.step hb o58a
                            replace o69a := OwnS.step hb o69a
                            clear hb
                            go_upto_region 24 with fail
                            go_cut [11] (fun sd wx => sd = .int .i64 ((1 : Int) + (r0l.length : Int)) ∧ OwnS wx 1 A69a r0l.length c69a 3 (ints (upFrom (1 : Int) r0l.length)) ∧ Only u13.heap.size (gOf A69a) u13 wx)
                            case first =>
                              go_wp2_with fail
                              refine (L_markIntSG _ o69a (by omega) (by omega) (by omega)).mono ?_
                              rintro e v13a ⟨rfl, ov13aa, hOv13a⟩
                              have hzv13a := hOv13a.size
                              go_wp2_with fail
                              go_meet
                              exact ⟨rfl, ov13aa, hOv13a⟩
                            case rest =>
                              obtain ⟨u14, rfl⟩ : ∃ u14, u14 = wc := ⟨_, rfl⟩
                              obtain ⟨rfl, nw0, hO⟩ := hcut
                              have hG : ∀ y, y ∈ gOf A69a → u6.heap.size ≤ y := ge69a
                              replace hB := hB.trans (hO.below hB.size (fun y hy => by have := hG y hy; omega))
                              replace hS := hS.trans (hO.below hS.size (fun y hy => by have := hG y hy; omega))
                              replace bx47 := Box.only hO bx47 bx47.lt (fun hy => by have h1 := hG _ hy; have h2 := lbbx476; omega)
                              replace o47a := OwnS.only o47a hO (fun y hy => ⟨OwnS.lt o47a y hy, fun hx => by have h1 := hG y hx; have h2 := lto47a6 y hy; omega⟩)
                              replace o47b := OwnS.only o47b hO (fun y hy => ⟨OwnS.lt o47b y hy, fun hx => by have h1 := hG y hx; have h2 := lto47b6 y hy; omega⟩)
                              replace o58a := OwnS.only o58a hO (fun y hy => ⟨OwnS.lt o58a y hy, fun hx => by have h1 := hG y hx; have h2 := lto58a6 y hy; omega⟩)
                              clear o69a
                              have o69a := nw0
                              clear nw0
                              clear hO hG
                              have t13 : ¬ (1 : Int) + (r0l.length : Int) < 0 := by omega
                              go_upto_region 26 with fail
                              go_cut [12] (fun sd wx => sd = .int .i64 ((1 : Int) + (r0l.length : Int)) ∧ Below u14.heap.size u14 wx)
                              case first =>
                                go_wp2_with fail
                                refine (L_heldIntSG _ o69a (by omega) (by omega) (by omega)).mono ?_
                                rintro e v14a ⟨rfl, rfl⟩
                                go_wp2_with fail
                                go_meet
                                exact ⟨rfl, (by repeat (first | (with_reducible exact Below.refl _ _) | (with_reducible assumption) | ((with_reducible refine Below.alloc ?_ ?_ _); rotate_left; (first | omega | (simp <;> omega))) | ((with_reducible refine Below.setCell ?_ ?_ _); rotate_left; (first | omega | (simp <;> omega))) | (with_reducible refine below_drewN ?_ _) | (with_reducible refine Below.drew ?_) | ((with_reducible refine Below.step (by assumption) ?_ ?_); rotate_left; (first | omega | (simp <;> omega)))))⟩
                              case rest =>
                                obtain ⟨u15, rfl⟩ : ∃ u15, u15 = wc := ⟨_, rfl⟩
                                obtain ⟨rfl, hb⟩ := hcut
                                replace hB := Below.step hb hB hB.size
                                replace hS := Below.step hb hS hS.size
                                replace bx47 := Box.step hb bx47
                                replace o47a := OwnS.step hb o47a
                                replace o47b := OwnS.step hb o47b
                                replace o58a := OwnS.step hb o58a
                                replace o69a := OwnS.step hb o69a
                                clear hb
                                have t14 : ¬ (1 : Int) + (r0l.length : Int) < 0 := by omega
                                go_upto_region 31 with fail
                                go_cut [13] (fun s13 wx => ∃ A1513a c1513a, s13 = (.slice A1513a r0l.length c1513a) ∧ OwnS wx 1 A1513a r0l.length c1513a 3 (ints r0l) ∧ (∀ x, x ∈ gOf A1513a → u15.heap.size ≤ x) ∧ Below u15.heap.size u15 wx)
                                case first =>
                                  obtain ⟨zb15a, cb15a0, cb15a1, cb15a2, cb15a3⟩ := (Box.step hS ba0).open4
                                  go_wp2_with fail
                                  refine (L_toFilmM (x0 := y0a) (x1 := y0b) (l0 := y0lc) (l1 := y0ld) _ by0lc by0ld (RS.step (by repeat (first | (with_reducible exact Below.refl _ _) | (with_reducible assumption) | ((with_reducible refine Below.alloc ?_ ?_ _); rotate_left; (first | omega | (simp <;> omega))) | ((with_reducible refine Below.setCell ?_ ?_ _); rotate_left; (first | omega | (simp <;> omega))) | (with_reducible refine below_drewN ?_ _) | (with_reducible refine Below.drew ?_) | ((with_reducible refine Below.step (by assumption) ?_ ?_); rotate_left; (first | omega | (simp <;> omega))))) (RS.step hS qh0a)) (RS.step (by repeat (first | (with_reducible exact Below.refl _ _) | (with_reducible assumption) | ((with_reducible refine Below.alloc ?_ ?_ _); rotate_left; (first | omega | (simp <;> omega))) | ((with_reducible refine Below.setCell ?_ ?_ _); rotate_left; (first | omega | (simp <;> omega))) | (with_reducible refine below_drewN ?_ _) | (with_reducible refine Below.drew ?_) | ((with_reducible refine Below.step (by assumption) ?_ ?_); rotate_left; (first | omega | (simp <;> omega))))) (RS.step hS qh0b))).mono ?_
                                  rintro e v15a ⟨Tv15aa, kv15aa, Tv15ab, kv15ab, rfl, ov15aa, ov15ab, gev15aa, gev15ab, div15a, hbv15a⟩
                                  have hzv15a := hbv15a.size; (try simp at hzv15a)
                                  have cv15aa := fun o => hbv15a.cell (p := ⟨w.heap.size, o, none⟩) (by first | omega | (simp <;> omega))
                                  have zv15aa : w.heap.size < v15a.heap.size := (by first | omega | (simp <;> omega))
                                  have ev15aa : ¬ w.heap.size = v15a.heap.size := (by omega)
                                  have gv15aa : ¬ v15a.heap.size = w.heap.size := (by omega)
                                  go_wp2_with fail
                                  refine (L_toBucketSM (l := y1l) _ by1l (RS.step (by repeat (first | (with_reducible exact Below.refl _ _) | (with_reducible assumption) | ((with_reducible refine Below.alloc ?_ ?_ _); rotate_left; (first | omega | (simp <;> omega))) | ((with_reducible refine Below.setCell ?_ ?_ _); rotate_left; (first | omega | (simp <;> omega))) | (with_reducible refine below_drewN ?_ _) | (with_reducible refine Below.drew ?_) | ((with_reducible refine Below.step (by assumption) ?_ ?_); rotate_left; (first | omega | (simp <;> omega))))) (RS.step hS qh1a))).mono ?_
                                  rintro e v15b ⟨Tv15ba, kv15ba, rfl, ov15ba, gev15ba, hbv15b⟩
                                  have hzv15b := hbv15b.size; (try simp at hzv15b)
                                  have cv15ba := fun o => hbv15b.cell (p := ⟨w.heap.size, o, none⟩) (by first | omega | (simp <;> omega))
                                  have zv15ba : w.heap.size < v15b.heap.size := (by first | omega | (simp <;> omega))
                                  have ev15ba : ¬ w.heap.size = v15b.heap.size := (by omega)
                                  have gv15ba : ¬ v15b.heap.size = w.heap.size := (by omega)
                                  go_wp2_with fail
                                  refine (HI.out _ _ _ _ _ _ _ (RS.step (by repeat (first | (with_reducible exact Below.refl _ _) | (with_reducible assumption) | ((with_reducible refine Below.alloc ?_ ?_ _); rotate_left; (first | omega | (simp <;> omega))) | ((with_reducible refine Below.setCell ?_ ?_ _); rotate_left; (first | omega | (simp <;> omega))) | (with_reducible refine below_drewN ?_ _) | (with_reducible refine Below.drew ?_) | ((with_reducible refine Below.step (by assumption) ?_ ?_); rotate_left; (first | omega | (simp <;> omega))))) (OwnS.rs ov15aa)) (RS.step (by repeat (first | (with_reducible exact Below.refl _ _) | (with_reducible assumption) | ((with_reducible refine Below.alloc ?_ ?_ _); rotate_left; (first | omega | (simp <;> omega))) | ((with_reducible refine Below.setCell ?_ ?_ _); rotate_left; (first | omega | (simp <;> omega))) | (with_reducible refine below_drewN ?_ _) | (with_reducible refine Below.drew ?_) | ((with_reducible refine Below.step (by assumption) ?_ ?_); rotate_left; (first | omega | (simp <;> omega))))) (OwnS.rs ov15ab)) (RS.step (by repeat (first | (with_reducible exact Below.refl _ _) | (with_reducible assumption) | ((with_reducible refine Below.alloc ?_ ?_ _); rotate_left; (first | omega | (simp <;> omega))) | ((with_reducible refine Below.setCell ?_ ?_ _); rotate_left; (first | omega | (simp <;> omega))) | (with_reducible refine below_drewN ?_ _) | (with_reducible refine Below.drew ?_) | ((with_reducible refine Below.step (by assumption) ?_ ?_); rotate_left; (first | omega | (simp <;> omega))))) (OwnS.rs ov15ba))).mono ?_
                                  rintro e v15c ⟨Tv15ca, kv15ca, rfl, ov15ca, gev15ca, hbv15c⟩
                                  have hzv15c := hbv15c.size; (try simp at hzv15c)
                                  have cv15ca := fun o => hbv15c.cell (p := ⟨w.heap.size, o, none⟩) (by first | omega | (simp <;> omega))
                                  have zv15ca : w.heap.size < v15c.heap.size := (by first | omega | (simp <;> omega))
                                  have ev15ca : ¬ w.heap.size = v15c.heap.size := (by omega)
                                  have gv15ca : ¬ v15c.heap.size = w.heap.size := (by omega)
                                  go_wp2_with fail
                                  go_meet
                                  exact ⟨Tv15ca, kv15ca, rfl, (by repeat (first | (with_reducible exact ov15ca) | ((with_reducible refine OwnS.far ?_ (fun x hx => ?_) _); rotate_left; (have h1 := gev15ca x hx; have h2 := OwnS.lt ov15ca x hx; (try simp at h1); first | omega | (simp <;> omega))) | (with_reducible refine OwnS.alloc ?_ _) | (with_reducible refine OwnS.drewN ?_ _) | (with_reducible refine OwnS.drew ?_) | (with_reducible refine OwnS.step (by assumption) ?_))), (fun x hx => by have h1 := gev15ca x hx; (try simp at h1); first | omega | (simp <;> omega)), (by repeat (first | (with_reducible exact Below.refl _ _) | (with_reducible assumption) | ((with_reducible refine Below.alloc ?_ ?_ _); rotate_left; (first | omega | (simp <;> omega))) | ((with_reducible refine Below.setCell ?_ ?_ _); rotate_left; (first | omega | (simp <;> omega))) | (with_reducible refine below_drewN ?_ _) | (with_reducible refine Below.drew ?_) | ((with_reducible refine Below.step (by assumption) ?_ ?_); rotate_left; (first | omega | (simp <;> omega)))))⟩
                                case rest =>
                                  obtain ⟨u16, rfl⟩ : ∃ u16, u16 = wc := ⟨_, rfl⟩
                                  obtain ⟨A1513a, c1513a, rfl, o1513a, ge1513a, hb⟩ := hcut
                                  have lto47a15 := OwnS.lt o47a
                                  have lto47b15 := OwnS.lt o47b
                                  have lbbx4715 := bx47.lt
                                  have lto58a15 := OwnS.lt o58a
                                  have lto69a15 := OwnS.lt o69a
                                  replace hB := Below.step hb hB hB.size
                                  have hSs := hS.size
                                  replace hS := Below.step hb hS hS.size
                                  replace bx47 := Box.step hb bx47
                                  replace o47a := OwnS.step hb o47a
                                  replace o47b := OwnS.step hb o47b
                                  replace o58a := OwnS.step hb o58a
                                  replace o69a := OwnS.step hb o69a
                                  clear hb
                                  go_upto_region 32 with fail
                                  go_cut [83] (fun sd wx => sd = .bool false ∧ Below u16.heap.size u16 wx)
                                  case first =>
                                    go_wp2_with fail
                                    refine (L_eqIntS _ _ _ _ _ _ _ (RS.step (by repeat (first | (with_reducible exact Below.refl _ _) | (with_reducible assumption) | ((with_reducible refine Below.alloc ?_ ?_ _); rotate_left; (first | omega | (simp <;> omega))) | ((with_reducible refine Below.setCell ?_ ?_ _); rotate_left; (first | omega | (simp <;> omega))) | (with_reducible refine below_drewN ?_ _) | (with_reducible refine Below.drew ?_) | ((with_reducible refine Below.step (by assumption) ?_ ?_); rotate_left; (first | omega | (simp <;> omega))))) (OwnS.rs o1513a)) (RS.step (by repeat (first | (with_reducible exact Below.refl _ _) | (with_reducible assumption) | ((with_reducible refine Below.alloc ?_ ?_ _); rotate_left; (first | omega | (simp <;> omega))) | ((with_reducible refine Below.setCell ?_ ?_ _); rotate_left; (first | omega | (simp <;> omega))) | (with_reducible refine below_drewN ?_ _) | (with_reducible refine Below.drew ?_) | ((with_reducible refine Below.step (by assumption) ?_ ?_); rotate_left; (first | omega | (simp <;> omega))))) (RS.step hS o36a))).mono ?_
                                    rintro e v16a ⟨rfl, hbv16a⟩
                                    have hzv16a := hbv16a.size; (try simp at hzv16a)
                                    go_wp2_with fail
                                    go_meet
                                    exact ⟨rfl, (by repeat (first | (with_reducible exact Below.refl _ _) | (with_reducible assumption) | ((with_reducible refine Below.alloc ?_ ?_ _); rotate_left; (first | omega | (simp <;> omega))) | ((with_reducible refine Below.setCell ?_ ?_ _); rotate_left; (first | omega | (simp <;> omega))) | (with_reducible refine below_drewN ?_ _) | (with_reducible refine Below.drew ?_) | ((with_reducible refine Below.step (by assumption) ?_ ?_); rotate_left; (first | omega | (simp <;> omega)))))⟩
                                  case rest =>
                                    obtain ⟨u17, rfl⟩ : ∃ u17, u17 = wc := ⟨_, rfl⟩
                                    obtain ⟨rfl, hb⟩ := hcut
                                    replace hB := Below.step hb hB hB.size
                                    replace hS := Below.step hb hS hS.size
                                    replace bx47 := Box.step hb bx47
                                    replace o47a := OwnS.step hb o47a
                                    replace o47b := OwnS.step hb o47b
                                    replace o58a := OwnS.step hb o58a
                                    replace o69a := OwnS.step hb o69a
                                    replace o1513a := OwnS.step hb o1513a
                                    clear hb
                                    go_upto_region 35 with fail
                                    go_cut [12] (fun sd wx => sd = .int .i64 ((1 : Int) + (r0l.length : Int)) ∧ Below u17.heap.size u17 wx)
                                    case first =>
                                      go_wp2_with fail
                                      refine (L_heldIntSG _ o69a (by omega) (by omega) (by omega)).mono ?_
                                      rintro e v17a ⟨rfl, rfl⟩
                                      go_wp2_with fail
                                      go_meet
                                      exact ⟨rfl, (by repeat (first | (with_reducible exact Below.refl _ _) | (with_reducible assumption) | ((with_reducible refine Below.alloc ?_ ?_ _); rotate_left; (first | omega | (simp <;> omega))) | ((with_reducible refine Below.setCell ?_ ?_ _); rotate_left; (first | omega | (simp <;> omega))) | (with_reducible refine below_drewN ?_ _) | (with_reducible refine Below.drew ?_) | ((with_reducible refine Below.step (by assumption) ?_ ?_); rotate_left; (first | omega | (simp <;> omega)))))⟩
                                    case rest =>
                                      obtain ⟨u18, rfl⟩ : ∃ u18, u18 = wc := ⟨_, rfl⟩
                                      obtain ⟨rfl, hb⟩ := hcut
                                      replace hB := Below.step hb hB hB.size
                                      replace hS := Below.step hb hS hS.size
                                      replace bx47 := Box.step hb bx47
                                      replace o47a := OwnS.step hb o47a
                                      replace o47b := OwnS.step hb o47b
                                      replace o58a := OwnS.step hb o58a
                                      replace o69a := OwnS.step hb o69a
                                      replace o1513a := OwnS.step hb o1513a
                                      clear hb
                                      have t17 : ¬ (1 : Int) + (r0l.length : Int) < 0 := by omega
                                      go_wp2
                                      go_ret
                                      exact ⟨rfl, hB⟩
theorem L_ExMissing (y0a y0b : Int) (y0lc : List Int) (y0ld : List Bool) (A0a : Option Addr) (p0a : Nat) (A0b : Option Addr) (p0b : Nat) (y1l : List EBucket) (A1a : Option Addr) (p1a : Nat) (w : World)  (h0a : RS w 1 A0a y0lc.length p0a (ints y0lc)) (h0b : RS w 1 A0b y0ld.length p0b (bools y0ld)) (h1a : RS w 4 A1a y1l.length p1a (rBucket y1l)) :
    Calls Try.prog 12 #[(vFilm y0a y0b (.slice A0a y0lc.length p0a) (.slice A0b y0ld.length p0b)), (.slice A1a y1l.length p1a)] w fun e w' => e = .returned (.bool true) ∧ Below w.heap.size w w' := by
  have hl := missF_len y0a y0b y0lc y0ld y1l
  exact L_ExMissing1 y0a y0b y0lc y0ld A0a p0a A0b p0b y1l A1a p1a (missF y0a y0b y0lc y0ld y1l) w h0a h0b h1a (by omega) (Lib.hid fun hm A p B q C r wx a1 a2 a3 => S_Missing wx hm a1 a2 a3) (Lib.hid fun hm A p B q C r wx a1 a2 a3 => I_Missing wx hm a1 a2 a3)
theorem FnExactMissing_walk : LawWalk 12 [96, 105] := by
  intro H enc W base args ds ps hA hval hlt
  obtain ⟨v0, v1, rfl, a0, a1⟩ := args2 hA hval
  obtain ⟨y0a, y0b, A0a, p0a, y0lc, A0b, p0b, y0ld, rfl, h0a, h0b⟩ := a0.film
  obtain ⟨A1a, p1a, y1l, rfl, h1a⟩ := a1.bucketS
  exact L_ExMissing y0a y0b y0lc y0ld A0a p0a A0b p0b y1l A1a p1a W h0a h0b h1a
end Go.Proofs.Ythfnldjldfkmnaa
