/- MADE BY PROGRAM (genlaw.py). The law FnExactAddSample. -/
import Derived.Test.YthfnldjldfkmnaaAddSmpS
import Derived.Test.YthfnldjldfkmnaaAddSmpI
import Derived.Test.YthfnldjldfkmnaaFilterL
import Derived.Test.YthfnldjldfkmnaaMade
import Derived.Deep.RegionHeld3
import Derived.Deep.DeepCutAuto
namespace Go.Proofs.Ythfnldjldfkmnaa
open Go.ChangeShapes Go.WideShapes Go.ChangeAt Go.RowKit
set_option linter.unusedVariables false
set_option maxRecDepth 100000
set_option maxHeartbeats 8000000 in
theorem L_ExAddSample1 (y0a y0b : Int) (y0lc : List Int) (y0ld : List Int) (A0a : Option Addr) (p0a : Nat) (A0b : Option Addr) (p0b : Nat) (y1a : Int) (y1b : Int) (y2a : Int) (y2b : Int) (y2c : Int) (y2d : Int) (y2e : Int) (y3 : Int) (r0a r0b : Int) (r0lc : List Int) (r0ld : List Int) (r1 : Bool) (w : World) (h0a : RS w 1 A0a y0lc.length p0a (ints y0lc)) (h0b : RS w 1 A0b y0ld.length p0b (ints y0ld)) (br0lc' : y0lc.length ≤ 1048576 → r0lc.length ≤ 1048576) (br0ld' : y0ld.length ≤ 1048576 → r0ld.length ≤ 1048576) (HS : Hid (y0lc.length ≤ 1048576 → y0ld.length ≤ 1048576 → ∀ (A0a : Option Addr) (p0a : Nat), ∀ (A0b : Option Addr) (p0b : Nat), ∀ (wx : World), RS wx 1 A0a y0lc.length p0a (ints y0lc) → RS wx 1 A0b y0ld.length p0b (ints y0ld) → Calls Try.prog 36 #[(vAccum y0a y0b (.slice A0a y0lc.length p0a) (.slice A0b y0ld.length p0b)), (.agg #[.int .i64 y1a, .int .i64 y1b]), (.agg #[.int .i64 y2a, .int .i64 y2b, .int .i64 y2c, .int .i64 y2d, .int .i64 y2e]), (.int .i64 y3)] wx (MadeAccum (fun s0 s1 => .tuple #[(vAccum r0a r0b s0 s1), (.bool r1)]) r0lc.length (ints r0lc) r0ld.length (ints r0ld) wx))) (HI : Hid (y0lc.length ≤ 1048576 → y0ld.length ≤ 1048576 → ∀ (A0a : Option Addr) (p0a : Nat), ∀ (A0b : Option Addr) (p0b : Nat), ∀ (wx : World), RS wx 1 A0a y0lc.length p0a (ints y0lc) → RS wx 1 A0b y0ld.length p0b (ints y0ld) → Calls Try.prog 32 #[(vAccum y0a y0b (.slice A0a y0lc.length p0a) (.slice A0b y0ld.length p0b)), (.agg #[.int .i64 y1a, .int .i64 y1b]), (.agg #[.int .i64 y2a, .int .i64 y2b, .int .i64 y2c, .int .i64 y2d, .int .i64 y2e]), (.int .i64 y3)] wx (MadeAccum (fun s0 s1 => .tuple #[(vAccum r0a r0b s0 s1), (.bool r1)]) r0lc.length (ints r0lc) r0ld.length (ints r0ld) wx))) :
    Calls Try.prog 7 #[(vAccum y0a y0b (.slice A0a y0lc.length p0a) (.slice A0b y0ld.length p0b)), (.agg #[.int .i64 y1a, .int .i64 y1b]), (.agg #[.int .i64 y2a, .int .i64 y2b, .int .i64 y2c, .int .i64 y2d, .int .i64 y2e]), (.int .i64 y3)] w fun e w' => e = .returned (.bool true) ∧ Below w.heap.size w w' := by
  have mh0a := h0a.len
  have mh0b := h0b.len
  unfold maxLen at *
  go_enter Try.func7, Try.ntmps7
  go_upto_region 1 with fail
  go_cut [9] (fun sl wx => sl = .int .i64 1048576 ∧ Box wx (w.heap.size) [.int .i64 y0a, .int .i64 y0b, (.slice A0a y0lc.length p0a), (.slice A0b y0ld.length p0b)] ∧ Box wx (w.heap.size + 1) [.int .i64 y1a, .int .i64 y1b] ∧ Box wx (w.heap.size + 1 + 1) [.int .i64 y2a, .int .i64 y2b, .int .i64 y2c, .int .i64 y2d, .int .i64 y2e] ∧ RS wx 1 A0a y0lc.length p0a (ints y0lc) ∧ RS wx 1 A0b y0ld.length p0b (ints y0ld) ∧ Below w.heap.size w wx)
  case first =>
    go_wp2_with fail
    go_meet
    exact ⟨rfl, Box.of_own (t := 68) (by repeat (first | (exact Own.at_lit (by simp)) | (with_reducible refine Own.alloc ?_ _))), Box.of_own (t := 69) (by repeat (first | (exact Own.at_lit (by simp)) | (with_reducible refine Own.alloc ?_ _))), Box.of_own (t := 70) (by repeat (first | (exact Own.at_lit (by simp)) | (with_reducible refine Own.alloc ?_ _))), (RS.step (by repeat (first | (with_reducible exact Below.refl _ _) | (with_reducible assumption) | ((with_reducible refine Below.alloc ?_ ?_ _); rotate_left; (first | omega | (simp <;> omega))) | ((with_reducible refine Below.setCell ?_ ?_ _); rotate_left; (first | omega | (simp <;> omega))) | (with_reducible refine below_drewN ?_ _) | (with_reducible refine Below.drew ?_) | ((with_reducible refine Below.step (by assumption) ?_ ?_); rotate_left; (first | omega | (simp <;> omega))))) h0a), (RS.step (by repeat (first | (with_reducible exact Below.refl _ _) | (with_reducible assumption) | ((with_reducible refine Below.alloc ?_ ?_ _); rotate_left; (first | omega | (simp <;> omega))) | ((with_reducible refine Below.setCell ?_ ?_ _); rotate_left; (first | omega | (simp <;> omega))) | (with_reducible refine below_drewN ?_ _) | (with_reducible refine Below.drew ?_) | ((with_reducible refine Below.step (by assumption) ?_ ?_); rotate_left; (first | omega | (simp <;> omega))))) h0b), (by repeat (first | (with_reducible exact Below.refl _ _) | (with_reducible assumption) | ((with_reducible refine Below.alloc ?_ ?_ _); rotate_left; (first | omega | (simp <;> omega))) | ((with_reducible refine Below.setCell ?_ ?_ _); rotate_left; (first | omega | (simp <;> omega))) | (with_reducible refine below_drewN ?_ _) | (with_reducible refine Below.drew ?_) | ((with_reducible refine Below.step (by assumption) ?_ ?_); rotate_left; (first | omega | (simp <;> omega)))))⟩
  case rest =>
    obtain ⟨u1, rfl⟩ : ∃ u1, u1 = wc := ⟨_, rfl⟩
    obtain ⟨rfl, ba0, ba1, ba2, qh0a, qh0b, hB⟩ := hcut
    go_upto_region 2 with fail
    go_cut [9] (fun sl wx => (sl = .int .i64 (-1) ∨ ∃ z : Int, sl = .int .i64 z ∧ 0 ≤ z ∧ z ≤ 1048576 ∧ (y0lc.length : Int) ≤ 1048576 ∧ (y0ld.length : Int) ≤ 1048576) ∧ Below u1.heap.size u1 wx)
    case first =>
      obtain ⟨zb1a, cb1a0, cb1a1, cb1a2, cb1a3⟩ := ba0.open4
      go_wp2_with fail
      refine (L_szAccum _ (by first | omega | assumption) (by first | omega | assumption) (by unfold maxLen; first | omega | assumption) (by unfold maxLen; first | omega | assumption)).mono ?_
      rintro e v1a ⟨rfl, hbv1a⟩
      have hzv1a := hbv1a.size; (try simp at hzv1a)
      have cv1aa := fun o => hbv1a.cell (p := ⟨w.heap.size, o, none⟩) (by first | omega | (simp <;> omega))
      have zv1aa : w.heap.size < v1a.heap.size := (by first | omega | (simp <;> omega))
      have ev1aa : ¬ w.heap.size = v1a.heap.size := (by omega)
      have gv1aa : ¬ v1a.heap.size = w.heap.size := (by omega)
      go_wp2_with fail
      go_meet
      rcases szF2_or (1048576) y0lc.length y0ld.length with hq | ⟨hq0, hq1, hq2, hq3⟩
      · exact ⟨.inl (by rw [hq]), (by repeat (first | (with_reducible exact Below.refl _ _) | (with_reducible assumption) | ((with_reducible refine Below.alloc ?_ ?_ _); rotate_left; (first | omega | (simp <;> omega))) | ((with_reducible refine Below.setCell ?_ ?_ _); rotate_left; (first | omega | (simp <;> omega))) | (with_reducible refine below_drewN ?_ _) | (with_reducible refine Below.drew ?_) | ((with_reducible refine Below.step (by assumption) ?_ ?_); rotate_left; (first | omega | (simp <;> omega)))))⟩
      · exact ⟨.inr ⟨_, rfl, hq0, hq1, hq2, hq3⟩, (by repeat (first | (with_reducible exact Below.refl _ _) | (with_reducible assumption) | ((with_reducible refine Below.alloc ?_ ?_ _); rotate_left; (first | omega | (simp <;> omega))) | ((with_reducible refine Below.setCell ?_ ?_ _); rotate_left; (first | omega | (simp <;> omega))) | (with_reducible refine below_drewN ?_ _) | (with_reducible refine Below.drew ?_) | ((with_reducible refine Below.step (by assumption) ?_ ?_); rotate_left; (first | omega | (simp <;> omega)))))⟩
    case rest =>
      obtain ⟨u2, rfl⟩ : ∃ u2, u2 = wc := ⟨_, rfl⟩
      obtain ⟨hsl, hb⟩ := hcut
      replace hB := Below.step hb hB hB.size
      replace ba0 := Box.step hb ba0
      replace ba1 := Box.step hb ba1
      replace ba2 := Box.step hb ba2
      replace qh0a := RS.step hb qh0a
      replace qh0b := RS.step hb qh0b
      clear hb
      rcases hsl with rfl | ⟨z1, rfl, hz10, hz11, hz12, hz13⟩
      · go_wp2
        go_ret
        exact ⟨rfl, hB⟩
      have by0lc : y0lc.length ≤ 1048576 := by omega
      have by0ld : y0ld.length ≤ 1048576 := by omega
      have br0lc := br0lc' by0lc
      have br0ld := br0ld' by0ld
      have HS := Lib.hid (HS.out by0lc by0ld)
      have HI := Lib.hid (HI.out by0lc by0ld)
      have t1 : ¬ z1 < 0 := by omega
      go_upto_region 5 with fail
      go_cut [10, 11] (fun s10 s11 wx => ∃ A210a c210a A210b c210b B210, s10 = .pointer (some ⟨B210, 0, none⟩) ∧ Box wx B210 [.int .i64 r0a, .int .i64 r0b, (.slice A210a r0lc.length c210a), (.slice A210b r0ld.length c210b)] ∧ u2.heap.size ≤ B210 ∧ OwnS wx 1 A210a r0lc.length c210a 3 (ints r0lc) ∧ (∀ x, x ∈ gOf A210a → u2.heap.size ≤ x) ∧ (∀ x, x ∈ gOf A210a → x ≠ B210) ∧ OwnS wx 1 A210b r0ld.length c210b 3 (ints r0ld) ∧ (∀ x, x ∈ gOf A210b → u2.heap.size ≤ x) ∧ (∀ x, x ∈ gOf A210b → x ≠ B210) ∧ (∀ x, x ∈ gOf A210a → x ∉ gOf A210b) ∧ s11 = (.bool r1) ∧ Below u2.heap.size u2 wx)
      case first =>
        obtain ⟨zb2a, cb2a0, cb2a1, cb2a2, cb2a3⟩ := ba0.open4
        obtain ⟨zb2b, cb2b0, cb2b1⟩ := ba1.open2
        obtain ⟨zb2c, cb2c0, cb2c1, cb2c2, cb2c3, cb2c4⟩ := ba2.open5
        go_region_held3 (fun w' => w'.cell? ⟨w.heap.size, 0, none⟩ = some (.int .i64 y0a) ∧ w'.cell? ⟨w.heap.size, 1, none⟩ = some (.int .i64 y0b) ∧ w'.cell? ⟨w.heap.size, 2, none⟩ = some ((.slice A0a y0lc.length p0a)) ∧ w'.cell? ⟨w.heap.size, 3, none⟩ = some ((.slice A0b y0ld.length p0b)) ∧ w'.cell? ⟨w.heap.size + 1, 0, none⟩ = some (.int .i64 y1a) ∧ w'.cell? ⟨w.heap.size + 1, 1, none⟩ = some (.int .i64 y1b) ∧ w'.cell? ⟨w.heap.size + 1 + 1, 0, none⟩ = some (.int .i64 y2a) ∧ w'.cell? ⟨w.heap.size + 1 + 1, 1, none⟩ = some (.int .i64 y2b) ∧ w'.cell? ⟨w.heap.size + 1 + 1, 2, none⟩ = some (.int .i64 y2c) ∧ w'.cell? ⟨w.heap.size + 1 + 1, 3, none⟩ = some (.int .i64 y2d) ∧ w'.cell? ⟨w.heap.size + 1 + 1, 4, none⟩ = some (.int .i64 y2e))
          (first | ((try dsimp only); refine ⟨?_, ?_, ?_, ?_, ?_, ?_, ?_, ?_, ?_, ?_, ?_⟩ <;> (go_simp; done)) | go_keep)
          (first | (go_at_call 37; (with_reducible refine (L_toAccumM (x0 := y0a) (x1 := y0b) (l0 := y0lc) (l1 := y0ld) _ by0lc by0ld (RS.step (by repeat (first | (with_reducible exact Below.refl _ _) | (with_reducible assumption) | ((with_reducible refine Below.alloc ?_ ?_ _); rotate_left; (first | omega | (simp <;> omega))) | ((with_reducible refine Below.setCell ?_ ?_ _); rotate_left; (first | omega | (simp <;> omega))) | (with_reducible refine below_drewN ?_ _) | (with_reducible refine Below.drew ?_) | ((with_reducible refine Below.step (by assumption) ?_ ?_); rotate_left; (first | omega | (simp <;> omega))))) qh0a) (RS.step (by repeat (first | (with_reducible exact Below.refl _ _) | (with_reducible assumption) | ((with_reducible refine Below.alloc ?_ ?_ _); rotate_left; (first | omega | (simp <;> omega))) | ((with_reducible refine Below.setCell ?_ ?_ _); rotate_left; (first | omega | (simp <;> omega))) | (with_reducible refine below_drewN ?_ _) | (with_reducible refine Below.drew ?_) | ((with_reducible refine Below.step (by assumption) ?_ ?_); rotate_left; (first | omega | (simp <;> omega))))) qh0b)).mono ?_); rintro e v2a ⟨Tv2aa, kv2aa, Tv2ab, kv2ab, rfl, ov2aa, ov2ab, gev2aa, gev2ab, div2a, hbv2a⟩; have hzv2a := hbv2a.size; (try simp at hzv2a); have cv2aa := fun o => hbv2a.cell (p := ⟨w.heap.size, o, none⟩) (by first | omega | (simp <;> omega)); have zv2aa : w.heap.size < v2a.heap.size := (by first | omega | (simp <;> omega)); have ev2aa : ¬ w.heap.size = v2a.heap.size := (by omega); have gv2aa : ¬ v2a.heap.size = w.heap.size := (by omega); have cv2ab := fun o => hbv2a.cell (p := ⟨w.heap.size + 1, o, none⟩) (by first | omega | (simp <;> omega)); have zv2ab : w.heap.size + 1 < v2a.heap.size := (by first | omega | (simp <;> omega)); have ev2ab : ¬ w.heap.size + 1 = v2a.heap.size := (by omega); have gv2ab : ¬ v2a.heap.size = w.heap.size + 1 := (by omega); have cv2ac := fun o => hbv2a.cell (p := ⟨w.heap.size + 1 + 1, o, none⟩) (by first | omega | (simp <;> omega)); have zv2ac : w.heap.size + 1 + 1 < v2a.heap.size := (by first | omega | (simp <;> omega)); have ev2ac : ¬ w.heap.size + 1 + 1 = v2a.heap.size := (by omega); have gv2ac : ¬ v2a.heap.size = w.heap.size + 1 + 1 := (by omega); (try (refine with_box hbv2a (u2.heap.size) ?_ ?_; (first | omega | (simp <;> omega)); intro ncv2a0 nfv2a0 nzv2a0))) | (go_at_call 38; (with_reducible refine (L_toFilter (y1a) (y1b) _).mono ?_); rintro e v2b ⟨rfl, hbv2b⟩; have hzv2b := hbv2b.size; (try simp at hzv2b); have cv2ba := fun o => hbv2b.cell (p := ⟨w.heap.size, o, none⟩) (by first | omega | (simp <;> omega)); have zv2ba : w.heap.size < v2b.heap.size := (by first | omega | (simp <;> omega)); have ev2ba : ¬ w.heap.size = v2b.heap.size := (by omega); have gv2ba : ¬ v2b.heap.size = w.heap.size := (by omega); have cv2bb := fun o => hbv2b.cell (p := ⟨w.heap.size + 1, o, none⟩) (by first | omega | (simp <;> omega)); have zv2bb : w.heap.size + 1 < v2b.heap.size := (by first | omega | (simp <;> omega)); have ev2bb : ¬ w.heap.size + 1 = v2b.heap.size := (by omega); have gv2bb : ¬ v2b.heap.size = w.heap.size + 1 := (by omega); have cv2bc := fun o => hbv2b.cell (p := ⟨w.heap.size + 1 + 1, o, none⟩) (by first | omega | (simp <;> omega)); have zv2bc : w.heap.size + 1 + 1 < v2b.heap.size := (by first | omega | (simp <;> omega)); have ev2bc : ¬ w.heap.size + 1 + 1 = v2b.heap.size := (by omega); have gv2bc : ¬ v2b.heap.size = w.heap.size + 1 + 1 := (by omega); (try (refine with_box hbv2b (u2.heap.size) ?_ ?_; (first | omega | (simp <;> omega)); intro ncv2b0 nfv2b0 nzv2b0)); (try (refine with_box hbv2b (v2a.heap.size) ?_ ?_; (first | omega | (simp <;> omega)); intro ncv2b1 nfv2b1 nzv2b1))) | (go_at_call 39; (with_reducible refine (L_toSample (y2a) (y2b) (y2c) (y2d) (y2e) _).mono ?_); rintro e v2c ⟨rfl, hbv2c⟩; have hzv2c := hbv2c.size; (try simp at hzv2c); have cv2ca := fun o => hbv2c.cell (p := ⟨w.heap.size, o, none⟩) (by first | omega | (simp <;> omega)); have zv2ca : w.heap.size < v2c.heap.size := (by first | omega | (simp <;> omega)); have ev2ca : ¬ w.heap.size = v2c.heap.size := (by omega); have gv2ca : ¬ v2c.heap.size = w.heap.size := (by omega); have cv2cb := fun o => hbv2c.cell (p := ⟨w.heap.size + 1, o, none⟩) (by first | omega | (simp <;> omega)); have zv2cb : w.heap.size + 1 < v2c.heap.size := (by first | omega | (simp <;> omega)); have ev2cb : ¬ w.heap.size + 1 = v2c.heap.size := (by omega); have gv2cb : ¬ v2c.heap.size = w.heap.size + 1 := (by omega); have cv2cc := fun o => hbv2c.cell (p := ⟨w.heap.size + 1 + 1, o, none⟩) (by first | omega | (simp <;> omega)); have zv2cc : w.heap.size + 1 + 1 < v2c.heap.size := (by first | omega | (simp <;> omega)); have ev2cc : ¬ w.heap.size + 1 + 1 = v2c.heap.size := (by omega); have gv2cc : ¬ v2c.heap.size = w.heap.size + 1 + 1 := (by omega); (try (refine with_box hbv2c (u2.heap.size) ?_ ?_; (first | omega | (simp <;> omega)); intro ncv2c0 nfv2c0 nzv2c0)); (try (refine with_box hbv2c (v2a.heap.size) ?_ ?_; (first | omega | (simp <;> omega)); intro ncv2c1 nfv2c1 nzv2c1)); (try (refine with_box hbv2c (v2b.heap.size) ?_ ?_; (first | omega | (simp <;> omega)); intro ncv2c2 nfv2c2 nzv2c2))) | (go_at_call 36; (with_reducible refine (HS.out _ _ _ _ _ (RS.step (by repeat (first | (with_reducible exact Below.refl _ _) | (with_reducible assumption) | ((with_reducible refine Below.alloc ?_ ?_ _); rotate_left; (first | omega | (simp <;> omega))) | ((with_reducible refine Below.setCell ?_ ?_ _); rotate_left; (first | omega | (simp <;> omega))) | (with_reducible refine below_drewN ?_ _) | (with_reducible refine Below.drew ?_) | ((with_reducible refine Below.step (by assumption) ?_ ?_); rotate_left; (first | omega | (simp <;> omega))))) (OwnS.rs ov2aa)) (RS.step (by repeat (first | (with_reducible exact Below.refl _ _) | (with_reducible assumption) | ((with_reducible refine Below.alloc ?_ ?_ _); rotate_left; (first | omega | (simp <;> omega))) | ((with_reducible refine Below.setCell ?_ ?_ _); rotate_left; (first | omega | (simp <;> omega))) | (with_reducible refine below_drewN ?_ _) | (with_reducible refine Below.drew ?_) | ((with_reducible refine Below.step (by assumption) ?_ ?_); rotate_left; (first | omega | (simp <;> omega))))) (OwnS.rs ov2ab))).mono ?_); rintro e v2d ⟨Tv2da, kv2da, Tv2db, kv2db, rfl, ov2da, ov2db, gev2da, gev2db, div2d, hbv2d⟩; have hzv2d := hbv2d.size; (try simp at hzv2d); have cv2da := fun o => hbv2d.cell (p := ⟨w.heap.size, o, none⟩) (by first | omega | (simp <;> omega)); have zv2da : w.heap.size < v2d.heap.size := (by first | omega | (simp <;> omega)); have ev2da : ¬ w.heap.size = v2d.heap.size := (by omega); have gv2da : ¬ v2d.heap.size = w.heap.size := (by omega); have cv2db := fun o => hbv2d.cell (p := ⟨w.heap.size + 1, o, none⟩) (by first | omega | (simp <;> omega)); have zv2db : w.heap.size + 1 < v2d.heap.size := (by first | omega | (simp <;> omega)); have ev2db : ¬ w.heap.size + 1 = v2d.heap.size := (by omega); have gv2db : ¬ v2d.heap.size = w.heap.size + 1 := (by omega); have cv2dc := fun o => hbv2d.cell (p := ⟨w.heap.size + 1 + 1, o, none⟩) (by first | omega | (simp <;> omega)); have zv2dc : w.heap.size + 1 + 1 < v2d.heap.size := (by first | omega | (simp <;> omega)); have ev2dc : ¬ w.heap.size + 1 + 1 = v2d.heap.size := (by omega); have gv2dc : ¬ v2d.heap.size = w.heap.size + 1 + 1 := (by omega); (try (refine with_box hbv2d (u2.heap.size) ?_ ?_; (first | omega | (simp <;> omega)); intro ncv2d0 nfv2d0 nzv2d0)); (try (refine with_box hbv2d (v2a.heap.size) ?_ ?_; (first | omega | (simp <;> omega)); intro ncv2d1 nfv2d1 nzv2d1)); (try (refine with_box hbv2d (v2b.heap.size) ?_ ?_; (first | omega | (simp <;> omega)); intro ncv2d2 nfv2d2 nzv2d2)); (try (refine with_box hbv2d (v2c.heap.size) ?_ ?_; (first | omega | (simp <;> omega)); intro ncv2d3 nfv2d3 nzv2d3))))
        all_goals
          go_wp2_with fail
          go_meet
          exact ⟨Tv2da, kv2da, Tv2db, kv2db, _, rfl, Box.mk4 (by first | omega | (simp <;> omega)) (by go_simp) (by go_simp) (by go_simp) (by go_simp), (by first | omega | (simp <;> omega)), (by repeat (first | (with_reducible exact ov2da) | ((with_reducible refine OwnS.far ?_ (fun x hx => ?_) _); rotate_left; (have h1 := gev2da x hx; have h2 := OwnS.lt ov2da x hx; (try simp at h1); first | omega | (simp <;> omega))) | (with_reducible refine OwnS.alloc ?_ _) | (with_reducible refine OwnS.drewN ?_ _) | (with_reducible refine OwnS.drew ?_) | (with_reducible refine OwnS.step (by assumption) ?_))), (fun x hx => by have h1 := gev2da x hx; (try simp at h1); first | omega | (simp <;> omega)), (fun x hx => by have h1 := gev2da x hx; have h2 := OwnS.lt ov2da x hx; (try simp at h1); first | omega | (simp <;> omega)), (by repeat (first | (with_reducible exact ov2db) | ((with_reducible refine OwnS.far ?_ (fun x hx => ?_) _); rotate_left; (have h1 := gev2db x hx; have h2 := OwnS.lt ov2db x hx; (try simp at h1); first | omega | (simp <;> omega))) | (with_reducible refine OwnS.alloc ?_ _) | (with_reducible refine OwnS.drewN ?_ _) | (with_reducible refine OwnS.drew ?_) | (with_reducible refine OwnS.step (by assumption) ?_))), (fun x hx => by have h1 := gev2db x hx; (try simp at h1); first | omega | (simp <;> omega)), (fun x hx => by have h1 := gev2db x hx; have h2 := OwnS.lt ov2db x hx; (try simp at h1); first | omega | (simp <;> omega)), div2d, rfl, (by repeat (first | (with_reducible exact Below.refl _ _) | (with_reducible assumption) | ((with_reducible refine Below.alloc ?_ ?_ _); rotate_left; (first | omega | (simp <;> omega))) | ((with_reducible refine Below.setCell ?_ ?_ _); rotate_left; (first | omega | (simp <;> omega))) | (with_reducible refine below_drewN ?_ _) | (with_reducible refine Below.drew ?_) | ((with_reducible refine Below.step (by assumption) ?_ ?_); rotate_left; (first | omega | (simp <;> omega)))))⟩
      case rest =>
        obtain ⟨u3, rfl⟩ : ∃ u3, u3 = wc := ⟨_, rfl⟩
        obtain ⟨A210a, c210a, A210b, c210b, B210, rfl, bx210, bg210, o210a, ge210a, ne2100, o210b, ge210b, ne2101, di210, rfl, hb⟩ := hcut
        replace hB := Below.step hb hB hB.size
        replace ba0 := Box.step hb ba0
        replace ba1 := Box.step hb ba1
        replace ba2 := Box.step hb ba2
        replace qh0a := RS.step hb qh0a
        replace qh0b := RS.step hb qh0b
        replace o210a := OwnS.rs o210a
        replace o210b := OwnS.rs o210b
        have hS := Below.refl u3.heap.size u3
        have hBS := hB.size
        go_upto_region 6 with fail
        go_cut [12] (fun s12 wx => ∃ A312a c312a A312b c312b B312, s12 = .pointer (some ⟨B312, 0, none⟩) ∧ Box wx B312 [.int .i64 y0a, .int .i64 y0b, (.slice A312a y0lc.length c312a), (.slice A312b y0ld.length c312b)] ∧ u3.heap.size ≤ B312 ∧ OwnS wx 1 A312a y0lc.length c312a 3 (ints y0lc) ∧ (∀ x, x ∈ gOf A312a → u3.heap.size ≤ x) ∧ (∀ x, x ∈ gOf A312a → x ≠ B312) ∧ OwnS wx 1 A312b y0ld.length c312b 3 (ints y0ld) ∧ (∀ x, x ∈ gOf A312b → u3.heap.size ≤ x) ∧ (∀ x, x ∈ gOf A312b → x ≠ B312) ∧ (∀ x, x ∈ gOf A312a → x ∉ gOf A312b) ∧ Below u3.heap.size u3 wx)
        case first =>
          obtain ⟨zb3a, cb3a0, cb3a1, cb3a2, cb3a3⟩ := (Box.step hS ba0).open4
          go_wp2_with fail
          refine (L_toAccumM (x0 := y0a) (x1 := y0b) (l0 := y0lc) (l1 := y0ld) _ by0lc by0ld (RS.step (by repeat (first | (with_reducible exact Below.refl _ _) | (with_reducible assumption) | ((with_reducible refine Below.alloc ?_ ?_ _); rotate_left; (first | omega | (simp <;> omega))) | ((with_reducible refine Below.setCell ?_ ?_ _); rotate_left; (first | omega | (simp <;> omega))) | (with_reducible refine below_drewN ?_ _) | (with_reducible refine Below.drew ?_) | ((with_reducible refine Below.step (by assumption) ?_ ?_); rotate_left; (first | omega | (simp <;> omega))))) (RS.step hS qh0a)) (RS.step (by repeat (first | (with_reducible exact Below.refl _ _) | (with_reducible assumption) | ((with_reducible refine Below.alloc ?_ ?_ _); rotate_left; (first | omega | (simp <;> omega))) | ((with_reducible refine Below.setCell ?_ ?_ _); rotate_left; (first | omega | (simp <;> omega))) | (with_reducible refine below_drewN ?_ _) | (with_reducible refine Below.drew ?_) | ((with_reducible refine Below.step (by assumption) ?_ ?_); rotate_left; (first | omega | (simp <;> omega))))) (RS.step hS qh0b))).mono ?_
          rintro e v3a ⟨Tv3aa, kv3aa, Tv3ab, kv3ab, rfl, ov3aa, ov3ab, gev3aa, gev3ab, div3a, hbv3a⟩
          have hzv3a := hbv3a.size; (try simp at hzv3a)
          have cv3aa := fun o => hbv3a.cell (p := ⟨w.heap.size, o, none⟩) (by first | omega | (simp <;> omega))
          have zv3aa : w.heap.size < v3a.heap.size := (by first | omega | (simp <;> omega))
          have ev3aa : ¬ w.heap.size = v3a.heap.size := (by omega)
          have gv3aa : ¬ v3a.heap.size = w.heap.size := (by omega)
          go_wp2_with fail
          go_meet
          exact ⟨Tv3aa, kv3aa, Tv3ab, kv3ab, _, rfl, Box.mk4 (by first | omega | (simp <;> omega)) (by go_simp) (by go_simp) (by go_simp) (by go_simp), (by first | omega | (simp <;> omega)), (by repeat (first | (with_reducible exact ov3aa) | ((with_reducible refine OwnS.far ?_ (fun x hx => ?_) _); rotate_left; (have h1 := gev3aa x hx; have h2 := OwnS.lt ov3aa x hx; (try simp at h1); first | omega | (simp <;> omega))) | (with_reducible refine OwnS.alloc ?_ _) | (with_reducible refine OwnS.drewN ?_ _) | (with_reducible refine OwnS.drew ?_) | (with_reducible refine OwnS.step (by assumption) ?_))), (fun x hx => by have h1 := gev3aa x hx; (try simp at h1); first | omega | (simp <;> omega)), (fun x hx => by have h1 := gev3aa x hx; have h2 := OwnS.lt ov3aa x hx; (try simp at h1); first | omega | (simp <;> omega)), (by repeat (first | (with_reducible exact ov3ab) | ((with_reducible refine OwnS.far ?_ (fun x hx => ?_) _); rotate_left; (have h1 := gev3ab x hx; have h2 := OwnS.lt ov3ab x hx; (try simp at h1); first | omega | (simp <;> omega))) | (with_reducible refine OwnS.alloc ?_ _) | (with_reducible refine OwnS.drewN ?_ _) | (with_reducible refine OwnS.drew ?_) | (with_reducible refine OwnS.step (by assumption) ?_))), (fun x hx => by have h1 := gev3ab x hx; (try simp at h1); first | omega | (simp <;> omega)), (fun x hx => by have h1 := gev3ab x hx; have h2 := OwnS.lt ov3ab x hx; (try simp at h1); first | omega | (simp <;> omega)), div3a, (by repeat (first | (with_reducible exact Below.refl _ _) | (with_reducible assumption) | ((with_reducible refine Below.alloc ?_ ?_ _); rotate_left; (first | omega | (simp <;> omega))) | ((with_reducible refine Below.setCell ?_ ?_ _); rotate_left; (first | omega | (simp <;> omega))) | (with_reducible refine below_drewN ?_ _) | (with_reducible refine Below.drew ?_) | ((with_reducible refine Below.step (by assumption) ?_ ?_); rotate_left; (first | omega | (simp <;> omega)))))⟩
        case rest =>
          obtain ⟨u4, rfl⟩ : ∃ u4, u4 = wc := ⟨_, rfl⟩
          obtain ⟨A312a, c312a, A312b, c312b, B312, rfl, bx312, bg312, o312a, ge312a, ne3120, o312b, ge312b, ne3121, di312, hb⟩ := hcut
          replace hB := Below.step hb hB hB.size
          have hSs := hS.size
          replace hS := Below.step hb hS hS.size
          clear hb
          go_upto_region 7 with fail
          go_cut [13, 14] (fun s13 s14 wx => ∃ A413a c413a A413b c413b B413, s13 = .pointer (some ⟨B413, 0, none⟩) ∧ Box wx B413 [.int .i64 r0a, .int .i64 r0b, (.slice A413a r0lc.length c413a), (.slice A413b r0ld.length c413b)] ∧ u4.heap.size ≤ B413 ∧ OwnS wx 1 A413a r0lc.length c413a 3 (ints r0lc) ∧ (∀ x, x ∈ gOf A413a → u4.heap.size ≤ x) ∧ (∀ x, x ∈ gOf A413a → x ≠ B413) ∧ OwnS wx 1 A413b r0ld.length c413b 3 (ints r0ld) ∧ (∀ x, x ∈ gOf A413b → u4.heap.size ≤ x) ∧ (∀ x, x ∈ gOf A413b → x ≠ B413) ∧ (∀ x, x ∈ gOf A413a → x ∉ gOf A413b) ∧ s14 = (.bool r1) ∧ Below u4.heap.size u4 wx)
          case first =>
            obtain ⟨zb4a, cb4a0, cb4a1, cb4a2, cb4a3⟩ := bx312.open4
            obtain ⟨zb4b, cb4b0, cb4b1⟩ := (Box.step hS ba1).open2
            obtain ⟨zb4c, cb4c0, cb4c1, cb4c2, cb4c3, cb4c4⟩ := (Box.step hS ba2).open5
            go_region_held3 (fun w' => w'.cell? ⟨B312, 0, none⟩ = some (.int .i64 y0a) ∧ w'.cell? ⟨B312, 1, none⟩ = some (.int .i64 y0b) ∧ w'.cell? ⟨B312, 2, none⟩ = some ((.slice A312a y0lc.length c312a)) ∧ w'.cell? ⟨B312, 3, none⟩ = some ((.slice A312b y0ld.length c312b)) ∧ w'.cell? ⟨w.heap.size + 1, 0, none⟩ = some (.int .i64 y1a) ∧ w'.cell? ⟨w.heap.size + 1, 1, none⟩ = some (.int .i64 y1b) ∧ w'.cell? ⟨w.heap.size + 1 + 1, 0, none⟩ = some (.int .i64 y2a) ∧ w'.cell? ⟨w.heap.size + 1 + 1, 1, none⟩ = some (.int .i64 y2b) ∧ w'.cell? ⟨w.heap.size + 1 + 1, 2, none⟩ = some (.int .i64 y2c) ∧ w'.cell? ⟨w.heap.size + 1 + 1, 3, none⟩ = some (.int .i64 y2d) ∧ w'.cell? ⟨w.heap.size + 1 + 1, 4, none⟩ = some (.int .i64 y2e))
              (first | ((try dsimp only); refine ⟨?_, ?_, ?_, ?_, ?_, ?_, ?_, ?_, ?_, ?_, ?_⟩ <;> (go_simp; done)) | go_keep)
              (first | (go_at_call 38; (with_reducible refine (L_toFilter (y1a) (y1b) _).mono ?_); rintro e v4a ⟨rfl, hbv4a⟩; have hzv4a := hbv4a.size; (try simp at hzv4a); have cv4aa := fun o => hbv4a.cell (p := ⟨B312, o, none⟩) (by first | omega | (simp <;> omega)); have zv4aa : B312 < v4a.heap.size := (by first | omega | (simp <;> omega)); have ev4aa : ¬ B312 = v4a.heap.size := (by omega); have gv4aa : ¬ v4a.heap.size = B312 := (by omega); have cv4ab := fun o => hbv4a.cell (p := ⟨w.heap.size + 1, o, none⟩) (by first | omega | (simp <;> omega)); have zv4ab : w.heap.size + 1 < v4a.heap.size := (by first | omega | (simp <;> omega)); have ev4ab : ¬ w.heap.size + 1 = v4a.heap.size := (by omega); have gv4ab : ¬ v4a.heap.size = w.heap.size + 1 := (by omega); have cv4ac := fun o => hbv4a.cell (p := ⟨w.heap.size + 1 + 1, o, none⟩) (by first | omega | (simp <;> omega)); have zv4ac : w.heap.size + 1 + 1 < v4a.heap.size := (by first | omega | (simp <;> omega)); have ev4ac : ¬ w.heap.size + 1 + 1 = v4a.heap.size := (by omega); have gv4ac : ¬ v4a.heap.size = w.heap.size + 1 + 1 := (by omega); (try (refine with_box hbv4a (u4.heap.size) ?_ ?_; (first | omega | (simp <;> omega)); intro ncv4a0 nfv4a0 nzv4a0))) | (go_at_call 39; (with_reducible refine (L_toSample (y2a) (y2b) (y2c) (y2d) (y2e) _).mono ?_); rintro e v4b ⟨rfl, hbv4b⟩; have hzv4b := hbv4b.size; (try simp at hzv4b); have cv4ba := fun o => hbv4b.cell (p := ⟨B312, o, none⟩) (by first | omega | (simp <;> omega)); have zv4ba : B312 < v4b.heap.size := (by first | omega | (simp <;> omega)); have ev4ba : ¬ B312 = v4b.heap.size := (by omega); have gv4ba : ¬ v4b.heap.size = B312 := (by omega); have cv4bb := fun o => hbv4b.cell (p := ⟨w.heap.size + 1, o, none⟩) (by first | omega | (simp <;> omega)); have zv4bb : w.heap.size + 1 < v4b.heap.size := (by first | omega | (simp <;> omega)); have ev4bb : ¬ w.heap.size + 1 = v4b.heap.size := (by omega); have gv4bb : ¬ v4b.heap.size = w.heap.size + 1 := (by omega); have cv4bc := fun o => hbv4b.cell (p := ⟨w.heap.size + 1 + 1, o, none⟩) (by first | omega | (simp <;> omega)); have zv4bc : w.heap.size + 1 + 1 < v4b.heap.size := (by first | omega | (simp <;> omega)); have ev4bc : ¬ w.heap.size + 1 + 1 = v4b.heap.size := (by omega); have gv4bc : ¬ v4b.heap.size = w.heap.size + 1 + 1 := (by omega); (try (refine with_box hbv4b (u4.heap.size) ?_ ?_; (first | omega | (simp <;> omega)); intro ncv4b0 nfv4b0 nzv4b0)); (try (refine with_box hbv4b (v4a.heap.size) ?_ ?_; (first | omega | (simp <;> omega)); intro ncv4b1 nfv4b1 nzv4b1))) | (go_at_call 32; (with_reducible refine (HI.out _ _ _ _ _ (RS.step (by repeat (first | (with_reducible exact Below.refl _ _) | (with_reducible assumption) | ((with_reducible refine Below.alloc ?_ ?_ _); rotate_left; (first | omega | (simp <;> omega))) | ((with_reducible refine Below.setCell ?_ ?_ _); rotate_left; (first | omega | (simp <;> omega))) | (with_reducible refine below_drewN ?_ _) | (with_reducible refine Below.drew ?_) | ((with_reducible refine Below.step (by assumption) ?_ ?_); rotate_left; (first | omega | (simp <;> omega))))) (OwnS.rs o312a)) (RS.step (by repeat (first | (with_reducible exact Below.refl _ _) | (with_reducible assumption) | ((with_reducible refine Below.alloc ?_ ?_ _); rotate_left; (first | omega | (simp <;> omega))) | ((with_reducible refine Below.setCell ?_ ?_ _); rotate_left; (first | omega | (simp <;> omega))) | (with_reducible refine below_drewN ?_ _) | (with_reducible refine Below.drew ?_) | ((with_reducible refine Below.step (by assumption) ?_ ?_); rotate_left; (first | omega | (simp <;> omega))))) (OwnS.rs o312b))).mono ?_); rintro e v4c ⟨Tv4ca, kv4ca, Tv4cb, kv4cb, rfl, ov4ca, ov4cb, gev4ca, gev4cb, div4c, hbv4c⟩; have hzv4c := hbv4c.size; (try simp at hzv4c); have cv4ca := fun o => hbv4c.cell (p := ⟨B312, o, none⟩) (by first | omega | (simp <;> omega)); have zv4ca : B312 < v4c.heap.size := (by first | omega | (simp <;> omega)); have ev4ca : ¬ B312 = v4c.heap.size := (by omega); have gv4ca : ¬ v4c.heap.size = B312 := (by omega); have cv4cb := fun o => hbv4c.cell (p := ⟨w.heap.size + 1, o, none⟩) (by first | omega | (simp <;> omega)); have zv4cb : w.heap.size + 1 < v4c.heap.size := (by first | omega | (simp <;> omega)); have ev4cb : ¬ w.heap.size + 1 = v4c.heap.size := (by omega); have gv4cb : ¬ v4c.heap.size = w.heap.size + 1 := (by omega); have cv4cc := fun o => hbv4c.cell (p := ⟨w.heap.size + 1 + 1, o, none⟩) (by first | omega | (simp <;> omega)); have zv4cc : w.heap.size + 1 + 1 < v4c.heap.size := (by first | omega | (simp <;> omega)); have ev4cc : ¬ w.heap.size + 1 + 1 = v4c.heap.size := (by omega); have gv4cc : ¬ v4c.heap.size = w.heap.size + 1 + 1 := (by omega); (try (refine with_box hbv4c (u4.heap.size) ?_ ?_; (first | omega | (simp <;> omega)); intro ncv4c0 nfv4c0 nzv4c0)); (try (refine with_box hbv4c (v4a.heap.size) ?_ ?_; (first | omega | (simp <;> omega)); intro ncv4c1 nfv4c1 nzv4c1)); (try (refine with_box hbv4c (v4b.heap.size) ?_ ?_; (first | omega | (simp <;> omega)); intro ncv4c2 nfv4c2 nzv4c2))))
            all_goals
              go_wp2_with fail
              go_meet
              exact ⟨Tv4ca, kv4ca, Tv4cb, kv4cb, _, rfl, Box.mk4 (by first | omega | (simp <;> omega)) (by go_simp) (by go_simp) (by go_simp) (by go_simp), (by first | omega | (simp <;> omega)), (by repeat (first | (with_reducible exact ov4ca) | ((with_reducible refine OwnS.far ?_ (fun x hx => ?_) _); rotate_left; (have h1 := gev4ca x hx; have h2 := OwnS.lt ov4ca x hx; (try simp at h1); first | omega | (simp <;> omega))) | (with_reducible refine OwnS.alloc ?_ _) | (with_reducible refine OwnS.drewN ?_ _) | (with_reducible refine OwnS.drew ?_) | (with_reducible refine OwnS.step (by assumption) ?_))), (fun x hx => by have h1 := gev4ca x hx; (try simp at h1); first | omega | (simp <;> omega)), (fun x hx => by have h1 := gev4ca x hx; have h2 := OwnS.lt ov4ca x hx; (try simp at h1); first | omega | (simp <;> omega)), (by repeat (first | (with_reducible exact ov4cb) | ((with_reducible refine OwnS.far ?_ (fun x hx => ?_) _); rotate_left; (have h1 := gev4cb x hx; have h2 := OwnS.lt ov4cb x hx; (try simp at h1); first | omega | (simp <;> omega))) | (with_reducible refine OwnS.alloc ?_ _) | (with_reducible refine OwnS.drewN ?_ _) | (with_reducible refine OwnS.drew ?_) | (with_reducible refine OwnS.step (by assumption) ?_))), (fun x hx => by have h1 := gev4cb x hx; (try simp at h1); first | omega | (simp <;> omega)), (fun x hx => by have h1 := gev4cb x hx; have h2 := OwnS.lt ov4cb x hx; (try simp at h1); first | omega | (simp <;> omega)), div4c, rfl, (by repeat (first | (with_reducible exact Below.refl _ _) | (with_reducible assumption) | ((with_reducible refine Below.alloc ?_ ?_ _); rotate_left; (first | omega | (simp <;> omega))) | ((with_reducible refine Below.setCell ?_ ?_ _); rotate_left; (first | omega | (simp <;> omega))) | (with_reducible refine below_drewN ?_ _) | (with_reducible refine Below.drew ?_) | ((with_reducible refine Below.step (by assumption) ?_ ?_); rotate_left; (first | omega | (simp <;> omega)))))⟩
          case rest =>
            obtain ⟨u5, rfl⟩ : ∃ u5, u5 = wc := ⟨_, rfl⟩
            obtain ⟨A413a, c413a, A413b, c413b, B413, rfl, bx413, bg413, o413a, ge413a, ne4130, o413b, ge413b, ne4131, di413, rfl, hb⟩ := hcut
            have lto312a4 := OwnS.lt o312a
            have lto312b4 := OwnS.lt o312b
            have lbbx3124 := bx312.lt
            replace hB := Below.step hb hB hB.size
            have hSs := hS.size
            replace hS := Below.step hb hS hS.size
            replace bx312 := Box.step hb bx312
            replace o312a := OwnS.step hb o312a
            replace o312b := OwnS.step hb o312b
            clear hb
            go_upto_region 8 with fail
            go_cut [56] (fun sd wx => sd = .bool false ∧ Below u5.heap.size u5 wx)
            case first =>
              obtain ⟨zb5a, cb5a0, cb5a1, cb5a2, cb5a3⟩ := bx413.open4
              obtain ⟨zb5b, cb5b0, cb5b1, cb5b2, cb5b3⟩ := (Box.step hS bx210).open4
              go_wp2_with fail
              refine (L_eqAccum _ (RS.step (by repeat (first | (with_reducible exact Below.refl _ _) | (with_reducible assumption) | ((with_reducible refine Below.alloc ?_ ?_ _); rotate_left; (first | omega | (simp <;> omega))) | ((with_reducible refine Below.setCell ?_ ?_ _); rotate_left; (first | omega | (simp <;> omega))) | (with_reducible refine below_drewN ?_ _) | (with_reducible refine Below.drew ?_) | ((with_reducible refine Below.step (by assumption) ?_ ?_); rotate_left; (first | omega | (simp <;> omega))))) (OwnS.rs o413a)) (RS.step (by repeat (first | (with_reducible exact Below.refl _ _) | (with_reducible assumption) | ((with_reducible refine Below.alloc ?_ ?_ _); rotate_left; (first | omega | (simp <;> omega))) | ((with_reducible refine Below.setCell ?_ ?_ _); rotate_left; (first | omega | (simp <;> omega))) | (with_reducible refine below_drewN ?_ _) | (with_reducible refine Below.drew ?_) | ((with_reducible refine Below.step (by assumption) ?_ ?_); rotate_left; (first | omega | (simp <;> omega))))) (OwnS.rs o413b)) (RS.step (by repeat (first | (with_reducible exact Below.refl _ _) | (with_reducible assumption) | ((with_reducible refine Below.alloc ?_ ?_ _); rotate_left; (first | omega | (simp <;> omega))) | ((with_reducible refine Below.setCell ?_ ?_ _); rotate_left; (first | omega | (simp <;> omega))) | (with_reducible refine below_drewN ?_ _) | (with_reducible refine Below.drew ?_) | ((with_reducible refine Below.step (by assumption) ?_ ?_); rotate_left; (first | omega | (simp <;> omega))))) (RS.step hS o210a)) (RS.step (by repeat (first | (with_reducible exact Below.refl _ _) | (with_reducible assumption) | ((with_reducible refine Below.alloc ?_ ?_ _); rotate_left; (first | omega | (simp <;> omega))) | ((with_reducible refine Below.setCell ?_ ?_ _); rotate_left; (first | omega | (simp <;> omega))) | (with_reducible refine below_drewN ?_ _) | (with_reducible refine Below.drew ?_) | ((with_reducible refine Below.step (by assumption) ?_ ?_); rotate_left; (first | omega | (simp <;> omega))))) (RS.step hS o210b))).mono ?_
              rintro e v5a ⟨rfl, hbv5a⟩
              have hzv5a := hbv5a.size; (try simp at hzv5a)
              have cv5aa := fun o => hbv5a.cell (p := ⟨B413, o, none⟩) (by first | omega | (simp <;> omega))
              have zv5aa : B413 < v5a.heap.size := (by first | omega | (simp <;> omega))
              have ev5aa : ¬ B413 = v5a.heap.size := (by omega)
              have gv5aa : ¬ v5a.heap.size = B413 := (by omega)
              have cv5ab := fun o => hbv5a.cell (p := ⟨B210, o, none⟩) (by first | omega | (simp <;> omega))
              have zv5ab : B210 < v5a.heap.size := (by first | omega | (simp <;> omega))
              have ev5ab : ¬ B210 = v5a.heap.size := (by omega)
              have gv5ab : ¬ v5a.heap.size = B210 := (by omega)
              go_wp2_with fail
              go_meet
              exact ⟨rfl, (by repeat (first | (with_reducible exact Below.refl _ _) | (with_reducible assumption) | ((with_reducible refine Below.alloc ?_ ?_ _); rotate_left; (first | omega | (simp <;> omega))) | ((with_reducible refine Below.setCell ?_ ?_ _); rotate_left; (first | omega | (simp <;> omega))) | (with_reducible refine below_drewN ?_ _) | (with_reducible refine Below.drew ?_) | ((with_reducible refine Below.step (by assumption) ?_ ?_); rotate_left; (first | omega | (simp <;> omega)))))⟩
            case rest =>
              obtain ⟨u6, rfl⟩ : ∃ u6, u6 = wc := ⟨_, rfl⟩
              obtain ⟨rfl, hb⟩ := hcut
              replace hB := Below.step hb hB hB.size
              replace hS := Below.step hb hS hS.size
              replace bx312 := Box.step hb bx312
              replace o312a := OwnS.step hb o312a
              replace o312b := OwnS.step hb o312b
              replace bx413 := Box.step hb bx413
              replace o413a := OwnS.step hb o413a
              replace o413b := OwnS.step hb o413b
              clear hb
              go_upto_region 10 with fail
              go_cut [61] (fun sd wx => sd = .bool false ∧ Below u6.heap.size u6 wx)
              case first =>
                obtain ⟨zb6a, cb6a0, cb6a1, cb6a2, cb6a3⟩ := bx312.open4
                obtain ⟨zb6b, cb6b0, cb6b1, cb6b2, cb6b3⟩ := (Box.step hS ba0).open4
                go_region_held3 (fun w' => w'.cell? ⟨B312, 0, none⟩ = some (.int .i64 y0a) ∧ w'.cell? ⟨B312, 1, none⟩ = some (.int .i64 y0b) ∧ w'.cell? ⟨B312, 2, none⟩ = some ((.slice A312a y0lc.length c312a)) ∧ w'.cell? ⟨B312, 3, none⟩ = some ((.slice A312b y0ld.length c312b)) ∧ w'.cell? ⟨w.heap.size, 0, none⟩ = some (.int .i64 y0a) ∧ w'.cell? ⟨w.heap.size, 1, none⟩ = some (.int .i64 y0b) ∧ w'.cell? ⟨w.heap.size, 2, none⟩ = some ((.slice A0a y0lc.length p0a)) ∧ w'.cell? ⟨w.heap.size, 3, none⟩ = some ((.slice A0b y0ld.length p0b)))
                  (first | ((try dsimp only); refine ⟨?_, ?_, ?_, ?_, ?_, ?_, ?_, ?_⟩ <;> (go_simp; done)) | go_keep)
                  (first | (go_at_call 37; (with_reducible refine (L_toAccumM (x0 := y0a) (x1 := y0b) (l0 := y0lc) (l1 := y0ld) _ by0lc by0ld (RS.step (by repeat (first | (with_reducible exact Below.refl _ _) | (with_reducible assumption) | ((with_reducible refine Below.alloc ?_ ?_ _); rotate_left; (first | omega | (simp <;> omega))) | ((with_reducible refine Below.setCell ?_ ?_ _); rotate_left; (first | omega | (simp <;> omega))) | (with_reducible refine below_drewN ?_ _) | (with_reducible refine Below.drew ?_) | ((with_reducible refine Below.step (by assumption) ?_ ?_); rotate_left; (first | omega | (simp <;> omega))))) (RS.step hS qh0a)) (RS.step (by repeat (first | (with_reducible exact Below.refl _ _) | (with_reducible assumption) | ((with_reducible refine Below.alloc ?_ ?_ _); rotate_left; (first | omega | (simp <;> omega))) | ((with_reducible refine Below.setCell ?_ ?_ _); rotate_left; (first | omega | (simp <;> omega))) | (with_reducible refine below_drewN ?_ _) | (with_reducible refine Below.drew ?_) | ((with_reducible refine Below.step (by assumption) ?_ ?_); rotate_left; (first | omega | (simp <;> omega))))) (RS.step hS qh0b))).mono ?_); rintro e v6a ⟨Tv6aa, kv6aa, Tv6ab, kv6ab, rfl, ov6aa, ov6ab, gev6aa, gev6ab, div6a, hbv6a⟩; have hzv6a := hbv6a.size; (try simp at hzv6a); have cv6aa := fun o => hbv6a.cell (p := ⟨B312, o, none⟩) (by first | omega | (simp <;> omega)); have zv6aa : B312 < v6a.heap.size := (by first | omega | (simp <;> omega)); have ev6aa : ¬ B312 = v6a.heap.size := (by omega); have gv6aa : ¬ v6a.heap.size = B312 := (by omega); have cv6ab := fun o => hbv6a.cell (p := ⟨w.heap.size, o, none⟩) (by first | omega | (simp <;> omega)); have zv6ab : w.heap.size < v6a.heap.size := (by first | omega | (simp <;> omega)); have ev6ab : ¬ w.heap.size = v6a.heap.size := (by omega); have gv6ab : ¬ v6a.heap.size = w.heap.size := (by omega)) | (go_at_call 40; (with_reducible refine (L_eqAccum _ (RS.step (by repeat (first | (with_reducible exact Below.refl _ _) | (with_reducible assumption) | ((with_reducible refine Below.alloc ?_ ?_ _); rotate_left; (first | omega | (simp <;> omega))) | ((with_reducible refine Below.setCell ?_ ?_ _); rotate_left; (first | omega | (simp <;> omega))) | (with_reducible refine below_drewN ?_ _) | (with_reducible refine Below.drew ?_) | ((with_reducible refine Below.step (by assumption) ?_ ?_); rotate_left; (first | omega | (simp <;> omega))))) (OwnS.rs o312a)) (RS.step (by repeat (first | (with_reducible exact Below.refl _ _) | (with_reducible assumption) | ((with_reducible refine Below.alloc ?_ ?_ _); rotate_left; (first | omega | (simp <;> omega))) | ((with_reducible refine Below.setCell ?_ ?_ _); rotate_left; (first | omega | (simp <;> omega))) | (with_reducible refine below_drewN ?_ _) | (with_reducible refine Below.drew ?_) | ((with_reducible refine Below.step (by assumption) ?_ ?_); rotate_left; (first | omega | (simp <;> omega))))) (OwnS.rs o312b)) (RS.step (by repeat (first | (with_reducible exact Below.refl _ _) | (with_reducible assumption) | ((with_reducible refine Below.alloc ?_ ?_ _); rotate_left; (first | omega | (simp <;> omega))) | ((with_reducible refine Below.setCell ?_ ?_ _); rotate_left; (first | omega | (simp <;> omega))) | (with_reducible refine below_drewN ?_ _) | (with_reducible refine Below.drew ?_) | ((with_reducible refine Below.step (by assumption) ?_ ?_); rotate_left; (first | omega | (simp <;> omega))))) (OwnS.rs ov6aa)) (RS.step (by repeat (first | (with_reducible exact Below.refl _ _) | (with_reducible assumption) | ((with_reducible refine Below.alloc ?_ ?_ _); rotate_left; (first | omega | (simp <;> omega))) | ((with_reducible refine Below.setCell ?_ ?_ _); rotate_left; (first | omega | (simp <;> omega))) | (with_reducible refine below_drewN ?_ _) | (with_reducible refine Below.drew ?_) | ((with_reducible refine Below.step (by assumption) ?_ ?_); rotate_left; (first | omega | (simp <;> omega))))) (OwnS.rs ov6ab))).mono ?_); rintro e v6b ⟨rfl, hbv6b⟩; have hzv6b := hbv6b.size; (try simp at hzv6b); have cv6ba := fun o => hbv6b.cell (p := ⟨B312, o, none⟩) (by first | omega | (simp <;> omega)); have zv6ba : B312 < v6b.heap.size := (by first | omega | (simp <;> omega)); have ev6ba : ¬ B312 = v6b.heap.size := (by omega); have gv6ba : ¬ v6b.heap.size = B312 := (by omega); have cv6bb := fun o => hbv6b.cell (p := ⟨w.heap.size, o, none⟩) (by first | omega | (simp <;> omega)); have zv6bb : w.heap.size < v6b.heap.size := (by first | omega | (simp <;> omega)); have ev6bb : ¬ w.heap.size = v6b.heap.size := (by omega); have gv6bb : ¬ v6b.heap.size = w.heap.size := (by omega)))
                all_goals
                  go_wp2_with fail
                  go_meet
                  exact ⟨rfl, (by repeat (first | (with_reducible exact Below.refl _ _) | (with_reducible assumption) | ((with_reducible refine Below.alloc ?_ ?_ _); rotate_left; (first | omega | (simp <;> omega))) | ((with_reducible refine Below.setCell ?_ ?_ _); rotate_left; (first | omega | (simp <;> omega))) | (with_reducible refine below_drewN ?_ _) | (with_reducible refine Below.drew ?_) | ((with_reducible refine Below.step (by assumption) ?_ ?_); rotate_left; (first | omega | (simp <;> omega)))))⟩
              case rest =>
                obtain ⟨u7, rfl⟩ : ∃ u7, u7 = wc := ⟨_, rfl⟩
                obtain ⟨rfl, hb⟩ := hcut
                replace hB := Below.step hb hB hB.size
                replace hS := Below.step hb hS hS.size
                replace bx312 := Box.step hb bx312
                replace o312a := OwnS.step hb o312a
                replace o312b := OwnS.step hb o312b
                replace bx413 := Box.step hb bx413
                replace o413a := OwnS.step hb o413a
                replace o413b := OwnS.step hb o413b
                clear hb
                go_upto_region 13 with fail
                go_cut [15] (fun sd wx => sd = .int .i64 ((1 : Int) + (y0lc.length : Int) + (y0ld.length : Int)) ∧ OwnS wx 1 A312a y0lc.length c312a 3 (ints (upFrom (1 : Int) y0lc.length)) ∧ OwnS wx 1 A312b y0ld.length c312b 3 (ints (upFrom ((1 : Int) + (y0lc.length : Int)) y0ld.length)) ∧ Only u7.heap.size (gOf A312a ++ gOf A312b) u7 wx)
                case first =>
                  obtain ⟨zb7a, cb7a0, cb7a1, cb7a2, cb7a3⟩ := bx312.open4
                  go_wp2_with fail
                  refine (L_markAccumG _ o312a (by omega) o312b (by omega) di312 (by omega) (by omega)).mono ?_
                  rintro e v7a ⟨rfl, ov7aa, ov7ab, hOv7a⟩
                  have hzv7a := hOv7a.size
                  go_wp2_with fail
                  go_meet
                  exact ⟨rfl, ov7aa, ov7ab, hOv7a⟩
                case rest =>
                  obtain ⟨u8, rfl⟩ : ∃ u8, u8 = wc := ⟨_, rfl⟩
                  obtain ⟨rfl, nw0, nw1, hO⟩ := hcut
                  have hG : ∀ y, y ∈ gOf A312a ++ gOf A312b → u3.heap.size ≤ y := fun y hx => (List.mem_append.1 hx).elim (ge312a y) (ge312b y)
                  replace hB := hB.trans (hO.below hB.size (fun y hy => by have := hG y hy; omega))
                  replace hS := hS.trans (hO.below hS.size (fun y hy => by have := hG y hy; omega))
                  replace bx312 := Box.only hO bx312 bx312.lt (fun hy => (List.mem_append.1 hy).elim (fun h => ne3120 _ h rfl) (fun h => ne3121 _ h rfl))
                  have hL : ∀ y, y ∈ gOf A312a ++ gOf A312b → y < u4.heap.size := fun y hx => (List.mem_append.1 hx).elim (lto312a4 y) (lto312b4 y)
                  replace bx413 := Box.only hO bx413 bx413.lt (fun hy => by have := hL _ hy; omega)
                  replace o413a := OwnS.only o413a hO (fun y hy => ⟨OwnS.lt o413a y hy, fun hx => by have h1 := hL y hx; have h2 := ge413a y hy; omega⟩)
                  replace o413b := OwnS.only o413b hO (fun y hy => ⟨OwnS.lt o413b y hy, fun hx => by have h1 := hL y hx; have h2 := ge413b y hy; omega⟩)
                  clear o312a
                  have o312a := nw0
                  clear nw0
                  clear o312b
                  have o312b := nw1
                  clear nw1
                  clear hO hG
                  have t7 : ¬ (1 : Int) + (y0lc.length : Int) + (y0ld.length : Int) < 0 := by omega
                  go_upto_region 14 with fail
                  go_cut [77] (fun sd wx => sd = .bool false ∧ Below u8.heap.size u8 wx)
                  case first =>
                    obtain ⟨zb8a, cb8a0, cb8a1, cb8a2, cb8a3⟩ := bx413.open4
                    obtain ⟨zb8b, cb8b0, cb8b1, cb8b2, cb8b3⟩ := (Box.step hS bx210).open4
                    go_wp2_with fail
                    refine (L_eqAccum _ (RS.step (by repeat (first | (with_reducible exact Below.refl _ _) | (with_reducible assumption) | ((with_reducible refine Below.alloc ?_ ?_ _); rotate_left; (first | omega | (simp <;> omega))) | ((with_reducible refine Below.setCell ?_ ?_ _); rotate_left; (first | omega | (simp <;> omega))) | (with_reducible refine below_drewN ?_ _) | (with_reducible refine Below.drew ?_) | ((with_reducible refine Below.step (by assumption) ?_ ?_); rotate_left; (first | omega | (simp <;> omega))))) (OwnS.rs o413a)) (RS.step (by repeat (first | (with_reducible exact Below.refl _ _) | (with_reducible assumption) | ((with_reducible refine Below.alloc ?_ ?_ _); rotate_left; (first | omega | (simp <;> omega))) | ((with_reducible refine Below.setCell ?_ ?_ _); rotate_left; (first | omega | (simp <;> omega))) | (with_reducible refine below_drewN ?_ _) | (with_reducible refine Below.drew ?_) | ((with_reducible refine Below.step (by assumption) ?_ ?_); rotate_left; (first | omega | (simp <;> omega))))) (OwnS.rs o413b)) (RS.step (by repeat (first | (with_reducible exact Below.refl _ _) | (with_reducible assumption) | ((with_reducible refine Below.alloc ?_ ?_ _); rotate_left; (first | omega | (simp <;> omega))) | ((with_reducible refine Below.setCell ?_ ?_ _); rotate_left; (first | omega | (simp <;> omega))) | (with_reducible refine below_drewN ?_ _) | (with_reducible refine Below.drew ?_) | ((with_reducible refine Below.step (by assumption) ?_ ?_); rotate_left; (first | omega | (simp <;> omega))))) (RS.step hS o210a)) (RS.step (by repeat (first | (with_reducible exact Below.refl _ _) | (with_reducible assumption) | ((with_reducible refine Below.alloc ?_ ?_ _); rotate_left; (first | omega | (simp <;> omega))) | ((with_reducible refine Below.setCell ?_ ?_ _); rotate_left; (first | omega | (simp <;> omega))) | (with_reducible refine below_drewN ?_ _) | (with_reducible refine Below.drew ?_) | ((with_reducible refine Below.step (by assumption) ?_ ?_); rotate_left; (first | omega | (simp <;> omega))))) (RS.step hS o210b))).mono ?_
                    rintro e v8a ⟨rfl, hbv8a⟩
                    have hzv8a := hbv8a.size; (try simp at hzv8a)
                    have cv8aa := fun o => hbv8a.cell (p := ⟨B413, o, none⟩) (by first | omega | (simp <;> omega))
                    have zv8aa : B413 < v8a.heap.size := (by first | omega | (simp <;> omega))
                    have ev8aa : ¬ B413 = v8a.heap.size := (by omega)
                    have gv8aa : ¬ v8a.heap.size = B413 := (by omega)
                    have cv8ab := fun o => hbv8a.cell (p := ⟨B210, o, none⟩) (by first | omega | (simp <;> omega))
                    have zv8ab : B210 < v8a.heap.size := (by first | omega | (simp <;> omega))
                    have ev8ab : ¬ B210 = v8a.heap.size := (by omega)
                    have gv8ab : ¬ v8a.heap.size = B210 := (by omega)
                    go_wp2_with fail
                    go_meet
                    exact ⟨rfl, (by repeat (first | (with_reducible exact Below.refl _ _) | (with_reducible assumption) | ((with_reducible refine Below.alloc ?_ ?_ _); rotate_left; (first | omega | (simp <;> omega))) | ((with_reducible refine Below.setCell ?_ ?_ _); rotate_left; (first | omega | (simp <;> omega))) | (with_reducible refine below_drewN ?_ _) | (with_reducible refine Below.drew ?_) | ((with_reducible refine Below.step (by assumption) ?_ ?_); rotate_left; (first | omega | (simp <;> omega)))))⟩
                  case rest =>
                    obtain ⟨u9, rfl⟩ : ∃ u9, u9 = wc := ⟨_, rfl⟩
                    obtain ⟨rfl, hb⟩ := hcut
                    replace hB := Below.step hb hB hB.size
                    replace hS := Below.step hb hS hS.size
                    replace bx312 := Box.step hb bx312
                    replace o312a := OwnS.step hb o312a
                    replace o312b := OwnS.step hb o312b
                    replace bx413 := Box.step hb bx413
                    replace o413a := OwnS.step hb o413a
                    replace o413b := OwnS.step hb o413b
                    clear hb
                    go_upto_region 17 with fail
                    go_cut [16] (fun sd wx => sd = .int .i64 ((1 : Int) + (r0lc.length : Int) + (r0ld.length : Int)) ∧ OwnS wx 1 A413a r0lc.length c413a 3 (ints (upFrom (1 : Int) r0lc.length)) ∧ OwnS wx 1 A413b r0ld.length c413b 3 (ints (upFrom ((1 : Int) + (r0lc.length : Int)) r0ld.length)) ∧ Only u9.heap.size (gOf A413a ++ gOf A413b) u9 wx)
                    case first =>
                      obtain ⟨zb9a, cb9a0, cb9a1, cb9a2, cb9a3⟩ := bx413.open4
                      go_wp2_with fail
                      refine (L_markAccumG _ o413a (by omega) o413b (by omega) di413 (by omega) (by omega)).mono ?_
                      rintro e v9a ⟨rfl, ov9aa, ov9ab, hOv9a⟩
                      have hzv9a := hOv9a.size
                      go_wp2_with fail
                      go_meet
                      exact ⟨rfl, ov9aa, ov9ab, hOv9a⟩
                    case rest =>
                      obtain ⟨u10, rfl⟩ : ∃ u10, u10 = wc := ⟨_, rfl⟩
                      obtain ⟨rfl, nw0, nw1, hO⟩ := hcut
                      have hG : ∀ y, y ∈ gOf A413a ++ gOf A413b → u4.heap.size ≤ y := fun y hx => (List.mem_append.1 hx).elim (ge413a y) (ge413b y)
                      replace hB := hB.trans (hO.below hB.size (fun y hy => by have := hG y hy; omega))
                      replace hS := hS.trans (hO.below hS.size (fun y hy => by have := hG y hy; omega))
                      replace bx312 := Box.only hO bx312 bx312.lt (fun hy => by have h1 := hG _ hy; have h2 := lbbx3124; omega)
                      replace o312a := OwnS.only o312a hO (fun y hy => ⟨OwnS.lt o312a y hy, fun hx => by have h1 := hG y hx; have h2 := lto312a4 y hy; omega⟩)
                      replace o312b := OwnS.only o312b hO (fun y hy => ⟨OwnS.lt o312b y hy, fun hx => by have h1 := hG y hx; have h2 := lto312b4 y hy; omega⟩)
                      replace bx413 := Box.only hO bx413 bx413.lt (fun hy => (List.mem_append.1 hy).elim (fun h => ne4130 _ h rfl) (fun h => ne4131 _ h rfl))
                      clear o413a
                      have o413a := nw0
                      clear nw0
                      clear o413b
                      have o413b := nw1
                      clear nw1
                      clear hO hG
                      have t9 : ¬ (1 : Int) + (r0lc.length : Int) + (r0ld.length : Int) < 0 := by omega
                      go_upto_region 19 with fail
                      go_cut [17] (fun sd wx => sd = .int .i64 ((1 : Int) + (r0lc.length : Int) + (r0ld.length : Int)) ∧ Below u10.heap.size u10 wx)
                      case first =>
                        obtain ⟨zb10a, cb10a0, cb10a1, cb10a2, cb10a3⟩ := bx413.open4
                        go_wp2_with fail
                        refine (L_heldAccumG _ o413a (by omega) o413b (by omega) (by omega) (by omega)).mono ?_
                        rintro e v10a ⟨rfl, hbv10a⟩
                        have hzv10a := hbv10a.size; (try simp at hzv10a)
                        have cv10aa := fun o => hbv10a.cell (p := ⟨B413, o, none⟩) (by first | omega | (simp <;> omega))
                        have zv10aa : B413 < v10a.heap.size := (by first | omega | (simp <;> omega))
                        have ev10aa : ¬ B413 = v10a.heap.size := (by omega)
                        have gv10aa : ¬ v10a.heap.size = B413 := (by omega)
                        go_wp2_with fail
                        go_meet
                        exact ⟨rfl, (by repeat (first | (with_reducible exact Below.refl _ _) | (with_reducible assumption) | ((with_reducible refine Below.alloc ?_ ?_ _); rotate_left; (first | omega | (simp <;> omega))) | ((with_reducible refine Below.setCell ?_ ?_ _); rotate_left; (first | omega | (simp <;> omega))) | (with_reducible refine below_drewN ?_ _) | (with_reducible refine Below.drew ?_) | ((with_reducible refine Below.step (by assumption) ?_ ?_); rotate_left; (first | omega | (simp <;> omega)))))⟩
                      case rest =>
                        obtain ⟨u11, rfl⟩ : ∃ u11, u11 = wc := ⟨_, rfl⟩
                        obtain ⟨rfl, hb⟩ := hcut
                        replace hB := Below.step hb hB hB.size
                        replace hS := Below.step hb hS hS.size
                        replace bx312 := Box.step hb bx312
                        replace o312a := OwnS.step hb o312a
                        replace o312b := OwnS.step hb o312b
                        replace bx413 := Box.step hb bx413
                        replace o413a := OwnS.step hb o413a
                        replace o413b := OwnS.step hb o413b
                        clear hb
                        have t10 : ¬ (1 : Int) + (r0lc.length : Int) + (r0ld.length : Int) < 0 := by omega
                        go_upto_region 24 with fail
                        go_cut [18, 19] (fun s18 s19 wx => ∃ A1118a c1118a A1118b c1118b B1118, s18 = .pointer (some ⟨B1118, 0, none⟩) ∧ Box wx B1118 [.int .i64 r0a, .int .i64 r0b, (.slice A1118a r0lc.length c1118a), (.slice A1118b r0ld.length c1118b)] ∧ u11.heap.size ≤ B1118 ∧ OwnS wx 1 A1118a r0lc.length c1118a 3 (ints r0lc) ∧ (∀ x, x ∈ gOf A1118a → u11.heap.size ≤ x) ∧ (∀ x, x ∈ gOf A1118a → x ≠ B1118) ∧ OwnS wx 1 A1118b r0ld.length c1118b 3 (ints r0ld) ∧ (∀ x, x ∈ gOf A1118b → u11.heap.size ≤ x) ∧ (∀ x, x ∈ gOf A1118b → x ≠ B1118) ∧ (∀ x, x ∈ gOf A1118a → x ∉ gOf A1118b) ∧ s19 = (.bool r1) ∧ Below u11.heap.size u11 wx)
                        case first =>
                          obtain ⟨zb11a, cb11a0, cb11a1, cb11a2, cb11a3⟩ := (Box.step hS ba0).open4
                          obtain ⟨zb11b, cb11b0, cb11b1⟩ := (Box.step hS ba1).open2
                          obtain ⟨zb11c, cb11c0, cb11c1, cb11c2, cb11c3, cb11c4⟩ := (Box.step hS ba2).open5
                          go_region_held3 (fun w' => w'.cell? ⟨w.heap.size, 0, none⟩ = some (.int .i64 y0a) ∧ w'.cell? ⟨w.heap.size, 1, none⟩ = some (.int .i64 y0b) ∧ w'.cell? ⟨w.heap.size, 2, none⟩ = some ((.slice A0a y0lc.length p0a)) ∧ w'.cell? ⟨w.heap.size, 3, none⟩ = some ((.slice A0b y0ld.length p0b)) ∧ w'.cell? ⟨w.heap.size + 1, 0, none⟩ = some (.int .i64 y1a) ∧ w'.cell? ⟨w.heap.size + 1, 1, none⟩ = some (.int .i64 y1b) ∧ w'.cell? ⟨w.heap.size + 1 + 1, 0, none⟩ = some (.int .i64 y2a) ∧ w'.cell? ⟨w.heap.size + 1 + 1, 1, none⟩ = some (.int .i64 y2b) ∧ w'.cell? ⟨w.heap.size + 1 + 1, 2, none⟩ = some (.int .i64 y2c) ∧ w'.cell? ⟨w.heap.size + 1 + 1, 3, none⟩ = some (.int .i64 y2d) ∧ w'.cell? ⟨w.heap.size + 1 + 1, 4, none⟩ = some (.int .i64 y2e))
                            (first | ((try dsimp only); refine ⟨?_, ?_, ?_, ?_, ?_, ?_, ?_, ?_, ?_, ?_, ?_⟩ <;> (go_simp; done)) | go_keep)
                            (first | (go_at_call 37; (with_reducible refine (L_toAccumM (x0 := y0a) (x1 := y0b) (l0 := y0lc) (l1 := y0ld) _ by0lc by0ld (RS.step (by repeat (first | (with_reducible exact Below.refl _ _) | (with_reducible assumption) | ((with_reducible refine Below.alloc ?_ ?_ _); rotate_left; (first | omega | (simp <;> omega))) | ((with_reducible refine Below.setCell ?_ ?_ _); rotate_left; (first | omega | (simp <;> omega))) | (with_reducible refine below_drewN ?_ _) | (with_reducible refine Below.drew ?_) | ((with_reducible refine Below.step (by assumption) ?_ ?_); rotate_left; (first | omega | (simp <;> omega))))) (RS.step hS qh0a)) (RS.step (by repeat (first | (with_reducible exact Below.refl _ _) | (with_reducible assumption) | ((with_reducible refine Below.alloc ?_ ?_ _); rotate_left; (first | omega | (simp <;> omega))) | ((with_reducible refine Below.setCell ?_ ?_ _); rotate_left; (first | omega | (simp <;> omega))) | (with_reducible refine below_drewN ?_ _) | (with_reducible refine Below.drew ?_) | ((with_reducible refine Below.step (by assumption) ?_ ?_); rotate_left; (first | omega | (simp <;> omega))))) (RS.step hS qh0b))).mono ?_); rintro e v11a ⟨Tv11aa, kv11aa, Tv11ab, kv11ab, rfl, ov11aa, ov11ab, gev11aa, gev11ab, div11a, hbv11a⟩; have hzv11a := hbv11a.size; (try simp at hzv11a); have cv11aa := fun o => hbv11a.cell (p := ⟨w.heap.size, o, none⟩) (by first | omega | (simp <;> omega)); have zv11aa : w.heap.size < v11a.heap.size := (by first | omega | (simp <;> omega)); have ev11aa : ¬ w.heap.size = v11a.heap.size := (by omega); have gv11aa : ¬ v11a.heap.size = w.heap.size := (by omega); have cv11ab := fun o => hbv11a.cell (p := ⟨w.heap.size + 1, o, none⟩) (by first | omega | (simp <;> omega)); have zv11ab : w.heap.size + 1 < v11a.heap.size := (by first | omega | (simp <;> omega)); have ev11ab : ¬ w.heap.size + 1 = v11a.heap.size := (by omega); have gv11ab : ¬ v11a.heap.size = w.heap.size + 1 := (by omega); have cv11ac := fun o => hbv11a.cell (p := ⟨w.heap.size + 1 + 1, o, none⟩) (by first | omega | (simp <;> omega)); have zv11ac : w.heap.size + 1 + 1 < v11a.heap.size := (by first | omega | (simp <;> omega)); have ev11ac : ¬ w.heap.size + 1 + 1 = v11a.heap.size := (by omega); have gv11ac : ¬ v11a.heap.size = w.heap.size + 1 + 1 := (by omega); (try (refine with_box hbv11a (u11.heap.size) ?_ ?_; (first | omega | (simp <;> omega)); intro ncv11a0 nfv11a0 nzv11a0))) | (go_at_call 38; (with_reducible refine (L_toFilter (y1a) (y1b) _).mono ?_); rintro e v11b ⟨rfl, hbv11b⟩; have hzv11b := hbv11b.size; (try simp at hzv11b); have cv11ba := fun o => hbv11b.cell (p := ⟨w.heap.size, o, none⟩) (by first | omega | (simp <;> omega)); have zv11ba : w.heap.size < v11b.heap.size := (by first | omega | (simp <;> omega)); have ev11ba : ¬ w.heap.size = v11b.heap.size := (by omega); have gv11ba : ¬ v11b.heap.size = w.heap.size := (by omega); have cv11bb := fun o => hbv11b.cell (p := ⟨w.heap.size + 1, o, none⟩) (by first | omega | (simp <;> omega)); have zv11bb : w.heap.size + 1 < v11b.heap.size := (by first | omega | (simp <;> omega)); have ev11bb : ¬ w.heap.size + 1 = v11b.heap.size := (by omega); have gv11bb : ¬ v11b.heap.size = w.heap.size + 1 := (by omega); have cv11bc := fun o => hbv11b.cell (p := ⟨w.heap.size + 1 + 1, o, none⟩) (by first | omega | (simp <;> omega)); have zv11bc : w.heap.size + 1 + 1 < v11b.heap.size := (by first | omega | (simp <;> omega)); have ev11bc : ¬ w.heap.size + 1 + 1 = v11b.heap.size := (by omega); have gv11bc : ¬ v11b.heap.size = w.heap.size + 1 + 1 := (by omega); (try (refine with_box hbv11b (u11.heap.size) ?_ ?_; (first | omega | (simp <;> omega)); intro ncv11b0 nfv11b0 nzv11b0)); (try (refine with_box hbv11b (v11a.heap.size) ?_ ?_; (first | omega | (simp <;> omega)); intro ncv11b1 nfv11b1 nzv11b1))) | (go_at_call 39; (with_reducible refine (L_toSample (y2a) (y2b) (y2c) (y2d) (y2e) _).mono ?_); rintro e v11c ⟨rfl, hbv11c⟩; have hzv11c := hbv11c.size; (try simp at hzv11c); have cv11ca := fun o => hbv11c.cell (p := ⟨w.heap.size, o, none⟩) (by first | omega | (simp <;> omega)); have zv11ca : w.heap.size < v11c.heap.size := (by first | omega | (simp <;> omega)); have ev11ca : ¬ w.heap.size = v11c.heap.size := (by omega); have gv11ca : ¬ v11c.heap.size = w.heap.size := (by omega); have cv11cb := fun o => hbv11c.cell (p := ⟨w.heap.size + 1, o, none⟩) (by first | omega | (simp <;> omega)); have zv11cb : w.heap.size + 1 < v11c.heap.size := (by first | omega | (simp <;> omega)); have ev11cb : ¬ w.heap.size + 1 = v11c.heap.size := (by omega); have gv11cb : ¬ v11c.heap.size = w.heap.size + 1 := (by omega); have cv11cc := fun o => hbv11c.cell (p := ⟨w.heap.size + 1 + 1, o, none⟩) (by first | omega | (simp <;> omega)); have zv11cc : w.heap.size + 1 + 1 < v11c.heap.size := (by first | omega | (simp <;> omega)); have ev11cc : ¬ w.heap.size + 1 + 1 = v11c.heap.size := (by omega); have gv11cc : ¬ v11c.heap.size = w.heap.size + 1 + 1 := (by omega); (try (refine with_box hbv11c (u11.heap.size) ?_ ?_; (first | omega | (simp <;> omega)); intro ncv11c0 nfv11c0 nzv11c0)); (try (refine with_box hbv11c (v11a.heap.size) ?_ ?_; (first | omega | (simp <;> omega)); intro ncv11c1 nfv11c1 nzv11c1)); (try (refine with_box hbv11c (v11b.heap.size) ?_ ?_; (first | omega | (simp <;> omega)); intro ncv11c2 nfv11c2 nzv11c2))) | (go_at_call 32; (with_reducible refine (HI.out _ _ _ _ _ (RS.step (by repeat (first | (with_reducible exact Below.refl _ _) | (with_reducible assumption) | ((with_reducible refine Below.alloc ?_ ?_ _); rotate_left; (first | omega | (simp <;> omega))) | ((with_reducible refine Below.setCell ?_ ?_ _); rotate_left; (first | omega | (simp <;> omega))) | (with_reducible refine below_drewN ?_ _) | (with_reducible refine Below.drew ?_) | ((with_reducible refine Below.step (by assumption) ?_ ?_); rotate_left; (first | omega | (simp <;> omega))))) (OwnS.rs ov11aa)) (RS.step (by repeat (first | (with_reducible exact Below.refl _ _) | (with_reducible assumption) | ((with_reducible refine Below.alloc ?_ ?_ _); rotate_left; (first | omega | (simp <;> omega))) | ((with_reducible refine Below.setCell ?_ ?_ _); rotate_left; (first | omega | (simp <;> omega))) | (with_reducible refine below_drewN ?_ _) | (with_reducible refine Below.drew ?_) | ((with_reducible refine Below.step (by assumption) ?_ ?_); rotate_left; (first | omega | (simp <;> omega))))) (OwnS.rs ov11ab))).mono ?_); rintro e v11d ⟨Tv11da, kv11da, Tv11db, kv11db, rfl, ov11da, ov11db, gev11da, gev11db, div11d, hbv11d⟩; have hzv11d := hbv11d.size; (try simp at hzv11d); have cv11da := fun o => hbv11d.cell (p := ⟨w.heap.size, o, none⟩) (by first | omega | (simp <;> omega)); have zv11da : w.heap.size < v11d.heap.size := (by first | omega | (simp <;> omega)); have ev11da : ¬ w.heap.size = v11d.heap.size := (by omega); have gv11da : ¬ v11d.heap.size = w.heap.size := (by omega); have cv11db := fun o => hbv11d.cell (p := ⟨w.heap.size + 1, o, none⟩) (by first | omega | (simp <;> omega)); have zv11db : w.heap.size + 1 < v11d.heap.size := (by first | omega | (simp <;> omega)); have ev11db : ¬ w.heap.size + 1 = v11d.heap.size := (by omega); have gv11db : ¬ v11d.heap.size = w.heap.size + 1 := (by omega); have cv11dc := fun o => hbv11d.cell (p := ⟨w.heap.size + 1 + 1, o, none⟩) (by first | omega | (simp <;> omega)); have zv11dc : w.heap.size + 1 + 1 < v11d.heap.size := (by first | omega | (simp <;> omega)); have ev11dc : ¬ w.heap.size + 1 + 1 = v11d.heap.size := (by omega); have gv11dc : ¬ v11d.heap.size = w.heap.size + 1 + 1 := (by omega); (try (refine with_box hbv11d (u11.heap.size) ?_ ?_; (first | omega | (simp <;> omega)); intro ncv11d0 nfv11d0 nzv11d0)); (try (refine with_box hbv11d (v11a.heap.size) ?_ ?_; (first | omega | (simp <;> omega)); intro ncv11d1 nfv11d1 nzv11d1)); (try (refine with_box hbv11d (v11b.heap.size) ?_ ?_; (first | omega | (simp <;> omega)); intro ncv11d2 nfv11d2 nzv11d2)); (try (refine with_box hbv11d (v11c.heap.size) ?_ ?_; (first | omega | (simp <;> omega)); intro ncv11d3 nfv11d3 nzv11d3))))
                          all_goals
                            go_wp2_with fail
                            go_meet
                            exact ⟨Tv11da, kv11da, Tv11db, kv11db, _, rfl, Box.mk4 (by first | omega | (simp <;> omega)) (by go_simp) (by go_simp) (by go_simp) (by go_simp), (by first | omega | (simp <;> omega)), (by repeat (first | (with_reducible exact ov11da) | ((with_reducible refine OwnS.far ?_ (fun x hx => ?_) _); rotate_left; (have h1 := gev11da x hx; have h2 := OwnS.lt ov11da x hx; (try simp at h1); first | omega | (simp <;> omega))) | (with_reducible refine OwnS.alloc ?_ _) | (with_reducible refine OwnS.drewN ?_ _) | (with_reducible refine OwnS.drew ?_) | (with_reducible refine OwnS.step (by assumption) ?_))), (fun x hx => by have h1 := gev11da x hx; (try simp at h1); first | omega | (simp <;> omega)), (fun x hx => by have h1 := gev11da x hx; have h2 := OwnS.lt ov11da x hx; (try simp at h1); first | omega | (simp <;> omega)), (by repeat (first | (with_reducible exact ov11db) | ((with_reducible refine OwnS.far ?_ (fun x hx => ?_) _); rotate_left; (have h1 := gev11db x hx; have h2 := OwnS.lt ov11db x hx; (try simp at h1); first | omega | (simp <;> omega))) | (with_reducible refine OwnS.alloc ?_ _) | (with_reducible refine OwnS.drewN ?_ _) | (with_reducible refine OwnS.drew ?_) | (with_reducible refine OwnS.step (by assumption) ?_))), (fun x hx => by have h1 := gev11db x hx; (try simp at h1); first | omega | (simp <;> omega)), (fun x hx => by have h1 := gev11db x hx; have h2 := OwnS.lt ov11db x hx; (try simp at h1); first | omega | (simp <;> omega)), div11d, rfl, (by repeat (first | (with_reducible exact Below.refl _ _) | (with_reducible assumption) | ((with_reducible refine Below.alloc ?_ ?_ _); rotate_left; (first | omega | (simp <;> omega))) | ((with_reducible refine Below.setCell ?_ ?_ _); rotate_left; (first | omega | (simp <;> omega))) | (with_reducible refine below_drewN ?_ _) | (with_reducible refine Below.drew ?_) | ((with_reducible refine Below.step (by assumption) ?_ ?_); rotate_left; (first | omega | (simp <;> omega)))))⟩
                        case rest =>
                          obtain ⟨u12, rfl⟩ : ∃ u12, u12 = wc := ⟨_, rfl⟩
                          obtain ⟨A1118a, c1118a, A1118b, c1118b, B1118, rfl, bx1118, bg1118, o1118a, ge1118a, ne11180, o1118b, ge1118b, ne11181, di1118, rfl, hb⟩ := hcut
                          have lto312a11 := OwnS.lt o312a
                          have lto312b11 := OwnS.lt o312b
                          have lbbx31211 := bx312.lt
                          have lto413a11 := OwnS.lt o413a
                          have lto413b11 := OwnS.lt o413b
                          have lbbx41311 := bx413.lt
                          replace hB := Below.step hb hB hB.size
                          have hSs := hS.size
                          replace hS := Below.step hb hS hS.size
                          replace bx312 := Box.step hb bx312
                          replace o312a := OwnS.step hb o312a
                          replace o312b := OwnS.step hb o312b
                          replace bx413 := Box.step hb bx413
                          replace o413a := OwnS.step hb o413a
                          replace o413b := OwnS.step hb o413b
                          clear hb
                          go_upto_region 25 with fail
                          go_cut [108] (fun sd wx => sd = .bool false ∧ Below u12.heap.size u12 wx)
                          case first =>
                            obtain ⟨zb12a, cb12a0, cb12a1, cb12a2, cb12a3⟩ := bx1118.open4
                            obtain ⟨zb12b, cb12b0, cb12b1, cb12b2, cb12b3⟩ := (Box.step hS bx210).open4
                            go_wp2_with fail
                            refine (L_eqAccum _ (RS.step (by repeat (first | (with_reducible exact Below.refl _ _) | (with_reducible assumption) | ((with_reducible refine Below.alloc ?_ ?_ _); rotate_left; (first | omega | (simp <;> omega))) | ((with_reducible refine Below.setCell ?_ ?_ _); rotate_left; (first | omega | (simp <;> omega))) | (with_reducible refine below_drewN ?_ _) | (with_reducible refine Below.drew ?_) | ((with_reducible refine Below.step (by assumption) ?_ ?_); rotate_left; (first | omega | (simp <;> omega))))) (OwnS.rs o1118a)) (RS.step (by repeat (first | (with_reducible exact Below.refl _ _) | (with_reducible assumption) | ((with_reducible refine Below.alloc ?_ ?_ _); rotate_left; (first | omega | (simp <;> omega))) | ((with_reducible refine Below.setCell ?_ ?_ _); rotate_left; (first | omega | (simp <;> omega))) | (with_reducible refine below_drewN ?_ _) | (with_reducible refine Below.drew ?_) | ((with_reducible refine Below.step (by assumption) ?_ ?_); rotate_left; (first | omega | (simp <;> omega))))) (OwnS.rs o1118b)) (RS.step (by repeat (first | (with_reducible exact Below.refl _ _) | (with_reducible assumption) | ((with_reducible refine Below.alloc ?_ ?_ _); rotate_left; (first | omega | (simp <;> omega))) | ((with_reducible refine Below.setCell ?_ ?_ _); rotate_left; (first | omega | (simp <;> omega))) | (with_reducible refine below_drewN ?_ _) | (with_reducible refine Below.drew ?_) | ((with_reducible refine Below.step (by assumption) ?_ ?_); rotate_left; (first | omega | (simp <;> omega))))) (RS.step hS o210a)) (RS.step (by repeat (first | (with_reducible exact Below.refl _ _) | (with_reducible assumption) | ((with_reducible refine Below.alloc ?_ ?_ _); rotate_left; (first | omega | (simp <;> omega))) | ((with_reducible refine Below.setCell ?_ ?_ _); rotate_left; (first | omega | (simp <;> omega))) | (with_reducible refine below_drewN ?_ _) | (with_reducible refine Below.drew ?_) | ((with_reducible refine Below.step (by assumption) ?_ ?_); rotate_left; (first | omega | (simp <;> omega))))) (RS.step hS o210b))).mono ?_
                            rintro e v12a ⟨rfl, hbv12a⟩
                            have hzv12a := hbv12a.size; (try simp at hzv12a)
                            have cv12aa := fun o => hbv12a.cell (p := ⟨B1118, o, none⟩) (by first | omega | (simp <;> omega))
                            have zv12aa : B1118 < v12a.heap.size := (by first | omega | (simp <;> omega))
                            have ev12aa : ¬ B1118 = v12a.heap.size := (by omega)
                            have gv12aa : ¬ v12a.heap.size = B1118 := (by omega)
                            have cv12ab := fun o => hbv12a.cell (p := ⟨B210, o, none⟩) (by first | omega | (simp <;> omega))
                            have zv12ab : B210 < v12a.heap.size := (by first | omega | (simp <;> omega))
                            have ev12ab : ¬ B210 = v12a.heap.size := (by omega)
                            have gv12ab : ¬ v12a.heap.size = B210 := (by omega)
                            go_wp2_with fail
                            go_meet
                            exact ⟨rfl, (by repeat (first | (with_reducible exact Below.refl _ _) | (with_reducible assumption) | ((with_reducible refine Below.alloc ?_ ?_ _); rotate_left; (first | omega | (simp <;> omega))) | ((with_reducible refine Below.setCell ?_ ?_ _); rotate_left; (first | omega | (simp <;> omega))) | (with_reducible refine below_drewN ?_ _) | (with_reducible refine Below.drew ?_) | ((with_reducible refine Below.step (by assumption) ?_ ?_); rotate_left; (first | omega | (simp <;> omega)))))⟩
                          case rest =>
                            obtain ⟨u13, rfl⟩ : ∃ u13, u13 = wc := ⟨_, rfl⟩
                            obtain ⟨rfl, hb⟩ := hcut
                            replace hB := Below.step hb hB hB.size
                            replace hS := Below.step hb hS hS.size
                            replace bx312 := Box.step hb bx312
                            replace o312a := OwnS.step hb o312a
                            replace o312b := OwnS.step hb o312b
                            replace bx413 := Box.step hb bx413
                            replace o413a := OwnS.step hb o413a
                            replace o413b := OwnS.step hb o413b
                            replace bx1118 := Box.step hb bx1118
                            replace o1118a := OwnS.step hb o1118a
                            replace o1118b := OwnS.step hb o1118b
                            clear hb
                            go_upto_region 28 with fail
                            go_cut [17] (fun sd wx => sd = .int .i64 ((1 : Int) + (r0lc.length : Int) + (r0ld.length : Int)) ∧ Below u13.heap.size u13 wx)
                            case first =>
                              obtain ⟨zb13a, cb13a0, cb13a1, cb13a2, cb13a3⟩ := bx413.open4
                              go_wp2_with fail
                              refine (L_heldAccumG _ o413a (by omega) o413b (by omega) (by omega) (by omega)).mono ?_
                              rintro e v13a ⟨rfl, hbv13a⟩
                              have hzv13a := hbv13a.size; (try simp at hzv13a)
                              have cv13aa := fun o => hbv13a.cell (p := ⟨B413, o, none⟩) (by first | omega | (simp <;> omega))
                              have zv13aa : B413 < v13a.heap.size := (by first | omega | (simp <;> omega))
                              have ev13aa : ¬ B413 = v13a.heap.size := (by omega)
                              have gv13aa : ¬ v13a.heap.size = B413 := (by omega)
                              go_wp2_with fail
                              go_meet
                              exact ⟨rfl, (by repeat (first | (with_reducible exact Below.refl _ _) | (with_reducible assumption) | ((with_reducible refine Below.alloc ?_ ?_ _); rotate_left; (first | omega | (simp <;> omega))) | ((with_reducible refine Below.setCell ?_ ?_ _); rotate_left; (first | omega | (simp <;> omega))) | (with_reducible refine below_drewN ?_ _) | (with_reducible refine Below.drew ?_) | ((with_reducible refine Below.step (by assumption) ?_ ?_); rotate_left; (first | omega | (simp <;> omega)))))⟩
                            case rest =>
                              obtain ⟨u14, rfl⟩ : ∃ u14, u14 = wc := ⟨_, rfl⟩
                              obtain ⟨rfl, hb⟩ := hcut
                              replace hB := Below.step hb hB hB.size
                              replace hS := Below.step hb hS hS.size
                              replace bx312 := Box.step hb bx312
                              replace o312a := OwnS.step hb o312a
                              replace o312b := OwnS.step hb o312b
                              replace bx413 := Box.step hb bx413
                              replace o413a := OwnS.step hb o413a
                              replace o413b := OwnS.step hb o413b
                              replace bx1118 := Box.step hb bx1118
                              replace o1118a := OwnS.step hb o1118a
                              replace o1118b := OwnS.step hb o1118b
                              clear hb
                              have t13 : ¬ (1 : Int) + (r0lc.length : Int) + (r0ld.length : Int) < 0 := by omega
                              go_wp2
                              go_ret
                              exact ⟨rfl, hB⟩
theorem L_ExAddSample (y0a y0b : Int) (y0lc : List Int) (y0ld : List Int) (A0a : Option Addr) (p0a : Nat) (A0b : Option Addr) (p0b : Nat) (y1a : Int) (y1b : Int) (y2a : Int) (y2b : Int) (y2c : Int) (y2d : Int) (y2e : Int) (y3 : Int) (w : World) (ny3 : -9223372036854775808 ≤ y3 ∧ y3 ≤ 9223372036854775807) (h0a : RS w 1 A0a y0lc.length p0a (ints y0lc)) (h0b : RS w 1 A0b y0ld.length p0b (ints y0ld)) :
    Calls Try.prog 7 #[(vAccum y0a y0b (.slice A0a y0lc.length p0a) (.slice A0b y0ld.length p0b)), (.agg #[.int .i64 y1a, .int .i64 y1b]), (.agg #[.int .i64 y2a, .int .i64 y2b, .int .i64 y2c, .int .i64 y2d, .int .i64 y2e]), (.int .i64 y3)] w fun e w' => e = .returned (.bool true) ∧ Below w.heap.size w w' := by
  have hl := addS_len y0a y0b y0lc y0ld y1a y1b y2a y2b y3
  have hl2 := addT_len y0a y0b y0lc y0ld y1a y1b y2a y2b y3
  exact L_ExAddSample1 y0a y0b y0lc y0ld A0a p0a A0b p0b y1a y1b y2a y2b y2c y2d y2e y3 y0a y0b (addS y0a y0b y0lc y0ld y1a y1b y2a y2b y3) (addT y0a y0b y0lc y0ld y1a y1b y2a y2b y3) (addOk y0a y0b y0lc y0ld y1a y1b y2a y2b y3) w h0a h0b (by omega) (by omega) (Lib.hid fun e1 e2 A p B q wx a1 a2 => by have := S_AddSample (W := y0a) (H := y0b) (k := y1a) (r := y1b) (x := y2a) (y := y2b) (tt := y2c) (u := y2d) (v := y2e) (color := y3) wx e1 e2 a1 a2; rw [hl, hl2]; exact this) (Lib.hid fun e1 e2 A p B q wx a1 a2 => by have := I_AddSample (W := y0a) (H := y0b) (k := y1a) (r := y1b) (x := y2a) (y := y2b) (tt := y2c) (u := y2d) (v := y2e) (color := y3) wx e1 e2 a1 a2; rw [hl, hl2]; exact this)
theorem FnExactAddSample_walk : LawWalk 7 [68, 69, 70, 3] := by
  intro H enc W base args ds ps hA hval hlt
  obtain ⟨v0, v1, v2, v3, rfl, a0, a1, a2, a3⟩ := args4 hA hval
  obtain ⟨y0a, y0b, A0a, p0a, y0lc, A0b, p0b, y0ld, rfl, h0a, h0b⟩ := a0.accum
  obtain ⟨y1a, y1b, rfl, _⟩ := a1.filter
  obtain ⟨y2a, y2b, y2c, y2d, y2e, rfl, _⟩ := a2.sample
  obtain ⟨y3, rfl, f3⟩ := a3.int Try.underlying3
  exact L_ExAddSample y0a y0b y0lc y0ld A0a p0a A0b p0b y1a y1b y2a y2b y2c y2d y2e y3 W (range_i64 f3) h0a h0b
end Go.Proofs.Ythfnldjldfkmnaa
