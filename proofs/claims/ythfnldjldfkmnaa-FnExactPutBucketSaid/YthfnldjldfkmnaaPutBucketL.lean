/- MADE BY PROGRAM (genlaw.py). The law FnExactPutBucket. -/
import Derived.Test.YthfnldjldfkmnaaPutBS
import Derived.Test.YthfnldjldfkmnaaPutBI
import Derived.Test.YthfnldjldfkmnaaCropI
import Derived.Test.YthfnldjldfkmnaaArgInts
import Derived.Test.YthfnldjldfkmnaaMade
import Derived.Deep.RegionHeld3
import Derived.Deep.DeepCutAuto
namespace Go.Proofs.Ythfnldjldfkmnaa
open Go.ChangeShapes Go.WideShapes Go.ChangeAt Go.RowKit
set_option linter.unusedVariables false
set_option maxRecDepth 100000
set_option maxHeartbeats 8000000 in
theorem L_ExPutBucket1 (y0a y0b : Int) (y0lc : List Int) (y0ld : List Bool) (A0a : Option Addr) (p0a : Nat) (A0b : Option Addr) (p0b : Nat) (y1a : Int) (y1b : Int) (y1c : Int) (y1d : Int) (y2l : List Int) (A2a : Option Addr) (p2a : Nat) (r0a r0b : Int) (r0lc : List Int) (r0ld : List Bool) (r1 : Bool) (w : World) (h0a : RS w 1 A0a y0lc.length p0a (ints y0lc)) (h0b : RS w 1 A0b y0ld.length p0b (bools y0ld)) (h2a : RS w 1 A2a y2l.length p2a (ints y2l)) (br0lc' : y0lc.length ≤ 1048576 → r0lc.length ≤ 1048576) (br0ld' : y0ld.length ≤ 1048576 → r0ld.length ≤ 1048576) (HS : Hid (y0lc.length ≤ 1048576 → y0ld.length ≤ 1048576 → ∀ (A0a : Option Addr) (p0a : Nat), ∀ (A0b : Option Addr) (p0b : Nat), ∀ (A2a : Option Addr) (p2a : Nat), ∀ (wx : World), RS wx 1 A0a y0lc.length p0a (ints y0lc) → RS wx 1 A0b y0ld.length p0b (bools y0ld) → RS wx 1 A2a y2l.length p2a (ints y2l) → Calls Try.prog 73 #[(vFilm y0a y0b (.slice A0a y0lc.length p0a) (.slice A0b y0ld.length p0b)), (.agg #[.int .i64 y1a, .int .i64 y1b, .int .i64 y1c, .int .i64 y1d]), (.slice A2a y2l.length p2a)] wx (MadeFilm (fun s0 s1 => .tuple #[(vFilm r0a r0b s0 s1), (.bool r1)]) r0lc.length (ints r0lc) r0ld.length (bools r0ld) wx))) (HI : Hid (y0lc.length ≤ 1048576 → y0ld.length ≤ 1048576 → ∀ (A0a : Option Addr) (p0a : Nat), ∀ (A0b : Option Addr) (p0b : Nat), ∀ (A2a : Option Addr) (p2a : Nat), ∀ (wx : World), RS wx 1 A0a y0lc.length p0a (ints y0lc) → RS wx 1 A0b y0ld.length p0b (bools y0ld) → RS wx 1 A2a y2l.length p2a (ints y2l) → Calls Try.prog 76 #[(vFilm y0a y0b (.slice A0a y0lc.length p0a) (.slice A0b y0ld.length p0b)), (.agg #[.int .i64 y1a, .int .i64 y1b, .int .i64 y1c, .int .i64 y1d]), (.slice A2a y2l.length p2a)] wx (MadeFilm (fun s0 s1 => .tuple #[(vFilm r0a r0b s0 s1), (.bool r1)]) r0lc.length (ints r0lc) r0ld.length (bools r0ld) wx))) :
    Calls Try.prog 13 #[(vFilm y0a y0b (.slice A0a y0lc.length p0a) (.slice A0b y0ld.length p0b)), (.agg #[.int .i64 y1a, .int .i64 y1b, .int .i64 y1c, .int .i64 y1d]), (.slice A2a y2l.length p2a)] w fun e w' => e = .returned (.bool true) ∧ Below w.heap.size w w' := by
  have mh0a := h0a.len
  have mh0b := h0b.len
  have mh2a := h2a.len
  unfold maxLen at *
  go_enter Try.func13, Try.ntmps13
  rcases Nat.lt_or_ge 1048576 y2l.length with hbig | by2l
  · have hbig' : (1048576 : Int) < (y2l.length : Int) := by omega
    go_wp2
    go_ret
    exact ⟨rfl, (by repeat (first | (with_reducible exact Below.refl _ _) | (with_reducible assumption) | ((with_reducible refine Below.alloc ?_ ?_ _); rotate_left; (first | omega | (simp <;> omega))) | ((with_reducible refine Below.setCell ?_ ?_ _); rotate_left; (first | omega | (simp <;> omega))) | (with_reducible refine below_drewN ?_ _) | (with_reducible refine Below.drew ?_) | ((with_reducible refine Below.step (by assumption) ?_ ?_); rotate_left; (first | omega | (simp <;> omega)))))⟩
  have ny2l : ¬ (1048576 : Int) < (y2l.length : Int) := by omega
  go_upto_region 3 with fail
  go_cut [7] (fun sl wx => sl = .int .i64 1048576 ∧ Box wx (w.heap.size) [.int .i64 y0a, .int .i64 y0b, (.slice A0a y0lc.length p0a), (.slice A0b y0ld.length p0b)] ∧ Box wx (w.heap.size + 1) [.int .i64 y1a, .int .i64 y1b, .int .i64 y1c, .int .i64 y1d] ∧ RS wx 1 A0a y0lc.length p0a (ints y0lc) ∧ RS wx 1 A0b y0ld.length p0b (bools y0ld) ∧ RS wx 1 A2a y2l.length p2a (ints y2l) ∧ Below w.heap.size w wx)
  case first =>
    go_wp2_with fail
    go_meet
    exact ⟨rfl, Box.of_own (t := 96) (by repeat (first | (exact Own.at_lit (by simp)) | (with_reducible refine Own.alloc ?_ _))), Box.of_own (t := 115) (by repeat (first | (exact Own.at_lit (by simp)) | (with_reducible refine Own.alloc ?_ _))), (RS.step (by repeat (first | (with_reducible exact Below.refl _ _) | (with_reducible assumption) | ((with_reducible refine Below.alloc ?_ ?_ _); rotate_left; (first | omega | (simp <;> omega))) | ((with_reducible refine Below.setCell ?_ ?_ _); rotate_left; (first | omega | (simp <;> omega))) | (with_reducible refine below_drewN ?_ _) | (with_reducible refine Below.drew ?_) | ((with_reducible refine Below.step (by assumption) ?_ ?_); rotate_left; (first | omega | (simp <;> omega))))) h0a), (RS.step (by repeat (first | (with_reducible exact Below.refl _ _) | (with_reducible assumption) | ((with_reducible refine Below.alloc ?_ ?_ _); rotate_left; (first | omega | (simp <;> omega))) | ((with_reducible refine Below.setCell ?_ ?_ _); rotate_left; (first | omega | (simp <;> omega))) | (with_reducible refine below_drewN ?_ _) | (with_reducible refine Below.drew ?_) | ((with_reducible refine Below.step (by assumption) ?_ ?_); rotate_left; (first | omega | (simp <;> omega))))) h0b), (RS.step (by repeat (first | (with_reducible exact Below.refl _ _) | (with_reducible assumption) | ((with_reducible refine Below.alloc ?_ ?_ _); rotate_left; (first | omega | (simp <;> omega))) | ((with_reducible refine Below.setCell ?_ ?_ _); rotate_left; (first | omega | (simp <;> omega))) | (with_reducible refine below_drewN ?_ _) | (with_reducible refine Below.drew ?_) | ((with_reducible refine Below.step (by assumption) ?_ ?_); rotate_left; (first | omega | (simp <;> omega))))) h2a), (by repeat (first | (with_reducible exact Below.refl _ _) | (with_reducible assumption) | ((with_reducible refine Below.alloc ?_ ?_ _); rotate_left; (first | omega | (simp <;> omega))) | ((with_reducible refine Below.setCell ?_ ?_ _); rotate_left; (first | omega | (simp <;> omega))) | (with_reducible refine below_drewN ?_ _) | (with_reducible refine Below.drew ?_) | ((with_reducible refine Below.step (by assumption) ?_ ?_); rotate_left; (first | omega | (simp <;> omega)))))⟩
  case rest =>
    obtain ⟨u1, rfl⟩ : ∃ u1, u1 = wc := ⟨_, rfl⟩
    obtain ⟨rfl, ba0, ba1, qh0a, qh0b, qh2a, hB⟩ := hcut
    go_upto_region 4 with fail
    go_cut [7] (fun sl wx => (sl = .int .i64 (-1) ∨ ∃ z : Int, sl = .int .i64 z ∧ 0 ≤ z ∧ z ≤ 1048576 ∧ (y0lc.length : Int) ≤ 1048576 ∧ (y0ld.length : Int) ≤ 1048576) ∧ Below u1.heap.size u1 wx)
    case first =>
      obtain ⟨zb1a, cb1a0, cb1a1, cb1a2, cb1a3⟩ := ba0.open4
      go_wp2_with fail
      refine (L_szFilm _ (by first | omega | assumption) (by first | omega | assumption) (by unfold maxLen; first | omega | assumption) (by unfold maxLen; first | omega | assumption)).mono ?_
      rintro e v1a ⟨rfl, hbv1a⟩
      have hzv1a := hbv1a.size; (try simp at hzv1a)
      have cv1aa := fun o => hbv1a.cell (p := ⟨w.heap.size, o, none⟩) (by first | omega | (simp <;> omega))
      have zv1aa : w.heap.size < v1a.heap.size := (by first | omega | (simp <;> omega))
      have ev1aa : ¬ w.heap.size = v1a.heap.size := (by omega)
      have gv1aa : ¬ v1a.heap.size = w.heap.size := (by omega)
      go_wp2_with fail
      go_meet
      rcases szF2_or (1048576) y0lc.length y0ld.length with hq | ⟨hq0, hq1, hq2, hq3⟩
      · exact ⟨.inl (by rw [hq]), (by repeat (first | (with_reducible exact Below.refl _ _) | (with_reducible assumption) | ((with_reducible refine Below.alloc ?_ ?_ _); rotate_left; (first | omega | (simp <;> omega))) | ((with_reducible refine Below.setCell ?_ ?_ _); rotate_left; (first | omega | (simp <;> omega))) | (with_reducible refine below_drewN ?_ _) | (with_reducible refine Below.drew ?_) | ((with_reducible refine Below.step (by assumption) ?_ ?_); rotate_left; (first | omega | (simp <;> omega)))))⟩
      · exact ⟨.inr ⟨_, rfl, hq0, hq1, hq2, hq3⟩, (by repeat (first | (with_reducible exact Below.refl _ _) | (with_reducible assumption) | ((with_reducible refine Below.alloc ?_ ?_ _); rotate_left; (first | omega | (simp <;> omega))) | ((with_reducible refine Below.setCell ?_ ?_ _); rotate_left; (first | omega | (simp <;> omega))) | (with_reducible refine below_drewN ?_ _) | (with_reducible refine Below.drew ?_) | ((with_reducible refine Below.step (by assumption) ?_ ?_); rotate_left; (first | omega | (simp <;> omega)))))⟩
    case rest =>
      obtain ⟨u2, rfl⟩ : ∃ u2, u2 = wc := ⟨_, rfl⟩
      obtain ⟨hsl, hb⟩ := hcut
      replace hB := Below.step hb hB hB.size
      replace ba0 := Box.step hb ba0
      replace ba1 := Box.step hb ba1
      replace qh0a := RS.step hb qh0a
      replace qh0b := RS.step hb qh0b
      replace qh2a := RS.step hb qh2a
      clear hb
      rcases hsl with rfl | ⟨z1, rfl, hz10, hz11, hz12, hz13⟩
      · go_wp2
        go_ret
        exact ⟨rfl, hB⟩
      have by0lc : y0lc.length ≤ 1048576 := by omega
      have by0ld : y0ld.length ≤ 1048576 := by omega
      have br0lc := br0lc' by0lc
      have br0ld := br0ld' by0ld
      have HS := Lib.hid (HS.out by0lc by0ld)
      have HI := Lib.hid (HI.out by0lc by0ld)
      have t1 : ¬ z1 < 0 := by omega
      go_upto_region 7 with fail
      go_cut [8, 9] (fun s8 s9 wx => ∃ A28a c28a A28b c28b B28, s8 = .pointer (some ⟨B28, 0, none⟩) ∧ Box wx B28 [.int .i64 r0a, .int .i64 r0b, (.slice A28a r0lc.length c28a), (.slice A28b r0ld.length c28b)] ∧ u2.heap.size ≤ B28 ∧ OwnS wx 1 A28a r0lc.length c28a 3 (ints r0lc) ∧ (∀ x, x ∈ gOf A28a → u2.heap.size ≤ x) ∧ (∀ x, x ∈ gOf A28a → x ≠ B28) ∧ OwnS wx 1 A28b r0ld.length c28b 4 (bools r0ld) ∧ (∀ x, x ∈ gOf A28b → u2.heap.size ≤ x) ∧ (∀ x, x ∈ gOf A28b → x ≠ B28) ∧ (∀ x, x ∈ gOf A28a → x ∉ gOf A28b) ∧ s9 = (.bool r1) ∧ Below u2.heap.size u2 wx)
      case first =>
        obtain ⟨zb2a, cb2a0, cb2a1, cb2a2, cb2a3⟩ := ba0.open4
        obtain ⟨zb2b, cb2b0, cb2b1, cb2b2, cb2b3⟩ := ba1.open4
        go_region_held3 (fun w' => w'.cell? ⟨w.heap.size, 0, none⟩ = some (.int .i64 y0a) ∧ w'.cell? ⟨w.heap.size, 1, none⟩ = some (.int .i64 y0b) ∧ w'.cell? ⟨w.heap.size, 2, none⟩ = some ((.slice A0a y0lc.length p0a)) ∧ w'.cell? ⟨w.heap.size, 3, none⟩ = some ((.slice A0b y0ld.length p0b)) ∧ w'.cell? ⟨w.heap.size + 1, 0, none⟩ = some (.int .i64 y1a) ∧ w'.cell? ⟨w.heap.size + 1, 1, none⟩ = some (.int .i64 y1b) ∧ w'.cell? ⟨w.heap.size + 1, 2, none⟩ = some (.int .i64 y1c) ∧ w'.cell? ⟨w.heap.size + 1, 3, none⟩ = some (.int .i64 y1d))
          (first | ((try dsimp only); refine ⟨?_, ?_, ?_, ?_, ?_, ?_, ?_, ?_⟩ <;> (go_simp; done)) | go_keep)
          (first | (go_at_call 59; (with_reducible refine (L_toFilmM (x0 := y0a) (x1 := y0b) (l0 := y0lc) (l1 := y0ld) _ by0lc by0ld (RS.step (by repeat (first | (with_reducible exact Below.refl _ _) | (with_reducible assumption) | ((with_reducible refine Below.alloc ?_ ?_ _); rotate_left; (first | omega | (simp <;> omega))) | ((with_reducible refine Below.setCell ?_ ?_ _); rotate_left; (first | omega | (simp <;> omega))) | (with_reducible refine below_drewN ?_ _) | (with_reducible refine Below.drew ?_) | ((with_reducible refine Below.step (by assumption) ?_ ?_); rotate_left; (first | omega | (simp <;> omega))))) qh0a) (RS.step (by repeat (first | (with_reducible exact Below.refl _ _) | (with_reducible assumption) | ((with_reducible refine Below.alloc ?_ ?_ _); rotate_left; (first | omega | (simp <;> omega))) | ((with_reducible refine Below.setCell ?_ ?_ _); rotate_left; (first | omega | (simp <;> omega))) | (with_reducible refine below_drewN ?_ _) | (with_reducible refine Below.drew ?_) | ((with_reducible refine Below.step (by assumption) ?_ ?_); rotate_left; (first | omega | (simp <;> omega))))) qh0b)).mono ?_); rintro e v2a ⟨Tv2aa, kv2aa, Tv2ab, kv2ab, rfl, ov2aa, ov2ab, gev2aa, gev2ab, div2a, hbv2a⟩; have hzv2a := hbv2a.size; (try simp at hzv2a); have cv2aa := fun o => hbv2a.cell (p := ⟨w.heap.size, o, none⟩) (by first | omega | (simp <;> omega)); have zv2aa : w.heap.size < v2a.heap.size := (by first | omega | (simp <;> omega)); have ev2aa : ¬ w.heap.size = v2a.heap.size := (by omega); have gv2aa : ¬ v2a.heap.size = w.heap.size := (by omega); have cv2ab := fun o => hbv2a.cell (p := ⟨w.heap.size + 1, o, none⟩) (by first | omega | (simp <;> omega)); have zv2ab : w.heap.size + 1 < v2a.heap.size := (by first | omega | (simp <;> omega)); have ev2ab : ¬ w.heap.size + 1 = v2a.heap.size := (by omega); have gv2ab : ¬ v2a.heap.size = w.heap.size + 1 := (by omega); (try (refine with_box hbv2a (u2.heap.size) ?_ ?_; (first | omega | (simp <;> omega)); intro ncv2a0 nfv2a0 nzv2a0))) | (go_at_call 74; (with_reducible refine (L_toBucket (y1a) (y1b) (y1c) (y1d) _).mono ?_); rintro e v2b ⟨rfl, hbv2b⟩; have hzv2b := hbv2b.size; (try simp at hzv2b); have cv2ba := fun o => hbv2b.cell (p := ⟨w.heap.size, o, none⟩) (by first | omega | (simp <;> omega)); have zv2ba : w.heap.size < v2b.heap.size := (by first | omega | (simp <;> omega)); have ev2ba : ¬ w.heap.size = v2b.heap.size := (by omega); have gv2ba : ¬ v2b.heap.size = w.heap.size := (by omega); have cv2bb := fun o => hbv2b.cell (p := ⟨w.heap.size + 1, o, none⟩) (by first | omega | (simp <;> omega)); have zv2bb : w.heap.size + 1 < v2b.heap.size := (by first | omega | (simp <;> omega)); have ev2bb : ¬ w.heap.size + 1 = v2b.heap.size := (by omega); have gv2bb : ¬ v2b.heap.size = w.heap.size + 1 := (by omega); (try (refine with_box hbv2b (u2.heap.size) ?_ ?_; (first | omega | (simp <;> omega)); intro ncv2b0 nfv2b0 nzv2b0)); (try (refine with_box hbv2b (v2a.heap.size) ?_ ?_; (first | omega | (simp <;> omega)); intro ncv2b1 nfv2b1 nzv2b1))) | (go_at_call 75; (with_reducible refine (L_toIntSM (l := y2l) _ by2l (RS.step (by repeat (first | (with_reducible exact Below.refl _ _) | (with_reducible assumption) | ((with_reducible refine Below.alloc ?_ ?_ _); rotate_left; (first | omega | (simp <;> omega))) | ((with_reducible refine Below.setCell ?_ ?_ _); rotate_left; (first | omega | (simp <;> omega))) | (with_reducible refine below_drewN ?_ _) | (with_reducible refine Below.drew ?_) | ((with_reducible refine Below.step (by assumption) ?_ ?_); rotate_left; (first | omega | (simp <;> omega))))) qh2a)).mono ?_); rintro e v2c ⟨Tv2ca, kv2ca, rfl, ov2ca, gev2ca, hbv2c⟩; have hzv2c := hbv2c.size; (try simp at hzv2c); have cv2ca := fun o => hbv2c.cell (p := ⟨w.heap.size, o, none⟩) (by first | omega | (simp <;> omega)); have zv2ca : w.heap.size < v2c.heap.size := (by first | omega | (simp <;> omega)); have ev2ca : ¬ w.heap.size = v2c.heap.size := (by omega); have gv2ca : ¬ v2c.heap.size = w.heap.size := (by omega); have cv2cb := fun o => hbv2c.cell (p := ⟨w.heap.size + 1, o, none⟩) (by first | omega | (simp <;> omega)); have zv2cb : w.heap.size + 1 < v2c.heap.size := (by first | omega | (simp <;> omega)); have ev2cb : ¬ w.heap.size + 1 = v2c.heap.size := (by omega); have gv2cb : ¬ v2c.heap.size = w.heap.size + 1 := (by omega); (try (refine with_box hbv2c (u2.heap.size) ?_ ?_; (first | omega | (simp <;> omega)); intro ncv2c0 nfv2c0 nzv2c0)); (try (refine with_box hbv2c (v2a.heap.size) ?_ ?_; (first | omega | (simp <;> omega)); intro ncv2c1 nfv2c1 nzv2c1)); (try (refine with_box hbv2c (v2b.heap.size) ?_ ?_; (first | omega | (simp <;> omega)); intro ncv2c2 nfv2c2 nzv2c2))) | (go_at_call 73; (with_reducible refine (HS.out _ _ _ _ _ _ _ (RS.step (by repeat (first | (with_reducible exact Below.refl _ _) | (with_reducible assumption) | ((with_reducible refine Below.alloc ?_ ?_ _); rotate_left; (first | omega | (simp <;> omega))) | ((with_reducible refine Below.setCell ?_ ?_ _); rotate_left; (first | omega | (simp <;> omega))) | (with_reducible refine below_drewN ?_ _) | (with_reducible refine Below.drew ?_) | ((with_reducible refine Below.step (by assumption) ?_ ?_); rotate_left; (first | omega | (simp <;> omega))))) (OwnS.rs ov2aa)) (RS.step (by repeat (first | (with_reducible exact Below.refl _ _) | (with_reducible assumption) | ((with_reducible refine Below.alloc ?_ ?_ _); rotate_left; (first | omega | (simp <;> omega))) | ((with_reducible refine Below.setCell ?_ ?_ _); rotate_left; (first | omega | (simp <;> omega))) | (with_reducible refine below_drewN ?_ _) | (with_reducible refine Below.drew ?_) | ((with_reducible refine Below.step (by assumption) ?_ ?_); rotate_left; (first | omega | (simp <;> omega))))) (OwnS.rs ov2ab)) (RS.step (by repeat (first | (with_reducible exact Below.refl _ _) | (with_reducible assumption) | ((with_reducible refine Below.alloc ?_ ?_ _); rotate_left; (first | omega | (simp <;> omega))) | ((with_reducible refine Below.setCell ?_ ?_ _); rotate_left; (first | omega | (simp <;> omega))) | (with_reducible refine below_drewN ?_ _) | (with_reducible refine Below.drew ?_) | ((with_reducible refine Below.step (by assumption) ?_ ?_); rotate_left; (first | omega | (simp <;> omega))))) (OwnS.rs ov2ca))).mono ?_); rintro e v2d ⟨Tv2da, kv2da, Tv2db, kv2db, rfl, ov2da, ov2db, gev2da, gev2db, div2d, hbv2d⟩; have hzv2d := hbv2d.size; (try simp at hzv2d); have cv2da := fun o => hbv2d.cell (p := ⟨w.heap.size, o, none⟩) (by first | omega | (simp <;> omega)); have zv2da : w.heap.size < v2d.heap.size := (by first | omega | (simp <;> omega)); have ev2da : ¬ w.heap.size = v2d.heap.size := (by omega); have gv2da : ¬ v2d.heap.size = w.heap.size := (by omega); have cv2db := fun o => hbv2d.cell (p := ⟨w.heap.size + 1, o, none⟩) (by first | omega | (simp <;> omega)); have zv2db : w.heap.size + 1 < v2d.heap.size := (by first | omega | (simp <;> omega)); have ev2db : ¬ w.heap.size + 1 = v2d.heap.size := (by omega); have gv2db : ¬ v2d.heap.size = w.heap.size + 1 := (by omega); (try (refine with_box hbv2d (u2.heap.size) ?_ ?_; (first | omega | (simp <;> omega)); intro ncv2d0 nfv2d0 nzv2d0)); (try (refine with_box hbv2d (v2a.heap.size) ?_ ?_; (first | omega | (simp <;> omega)); intro ncv2d1 nfv2d1 nzv2d1)); (try (refine with_box hbv2d (v2b.heap.size) ?_ ?_; (first | omega | (simp <;> omega)); intro ncv2d2 nfv2d2 nzv2d2)); (try (refine with_box hbv2d (v2c.heap.size) ?_ ?_; (first | omega | (simp <;> omega)); intro ncv2d3 nfv2d3 nzv2d3))))
        all_goals
          go_wp2_with fail
          go_meet
          exact ⟨Tv2da, kv2da, Tv2db, kv2db, _, rfl, Box.mk4 (by first | omega | (simp <;> omega)) (by go_simp) (by go_simp) (by go_simp) (by go_simp), (by first | omega | (simp <;> omega)), (by repeat (first | (with_reducible exact ov2da) | ((with_reducible refine OwnS.far ?_ (fun x hx => ?_) _); rotate_left; (have h1 := gev2da x hx; have h2 := OwnS.lt ov2da x hx; (try simp at h1); first | omega | (simp <;> omega))) | (with_reducible refine OwnS.alloc ?_ _) | (with_reducible refine OwnS.drewN ?_ _) | (with_reducible refine OwnS.drew ?_) | (with_reducible refine OwnS.step (by assumption) ?_))), (fun x hx => by have h1 := gev2da x hx; (try simp at h1); first | omega | (simp <;> omega)), (fun x hx => by have h1 := gev2da x hx; have h2 := OwnS.lt ov2da x hx; (try simp at h1); first | omega | (simp <;> omega)), (by repeat (first | (with_reducible exact ov2db) | ((with_reducible refine OwnS.far ?_ (fun x hx => ?_) _); rotate_left; (have h1 := gev2db x hx; have h2 := OwnS.lt ov2db x hx; (try simp at h1); first | omega | (simp <;> omega))) | (with_reducible refine OwnS.alloc ?_ _) | (with_reducible refine OwnS.drewN ?_ _) | (with_reducible refine OwnS.drew ?_) | (with_reducible refine OwnS.step (by assumption) ?_))), (fun x hx => by have h1 := gev2db x hx; (try simp at h1); first | omega | (simp <;> omega)), (fun x hx => by have h1 := gev2db x hx; have h2 := OwnS.lt ov2db x hx; (try simp at h1); first | omega | (simp <;> omega)), div2d, rfl, (by repeat (first | (with_reducible exact Below.refl _ _) | (with_reducible assumption) | ((with_reducible refine Below.alloc ?_ ?_ _); rotate_left; (first | omega | (simp <;> omega))) | ((with_reducible refine Below.setCell ?_ ?_ _); rotate_left; (first | omega | (simp <;> omega))) | (with_reducible refine below_drewN ?_ _) | (with_reducible refine Below.drew ?_) | ((with_reducible refine Below.step (by assumption) ?_ ?_); rotate_left; (first | omega | (simp <;> omega)))))⟩
      case rest =>
        obtain ⟨u3, rfl⟩ : ∃ u3, u3 = wc := ⟨_, rfl⟩
        obtain ⟨A28a, c28a, A28b, c28b, B28, rfl, bx28, bg28, o28a, ge28a, ne280, o28b, ge28b, ne281, di28, rfl, hb⟩ := hcut
        replace hB := Below.step hb hB hB.size
        replace ba0 := Box.step hb ba0
        replace ba1 := Box.step hb ba1
        replace qh0a := RS.step hb qh0a
        replace qh0b := RS.step hb qh0b
        replace qh2a := RS.step hb qh2a
        replace o28a := OwnS.rs o28a
        replace o28b := OwnS.rs o28b
        have hS := Below.refl u3.heap.size u3
        have hBS := hB.size
        go_upto_region 8 with fail
        go_cut [10] (fun s10 wx => ∃ A310a c310a A310b c310b B310, s10 = .pointer (some ⟨B310, 0, none⟩) ∧ Box wx B310 [.int .i64 y0a, .int .i64 y0b, (.slice A310a y0lc.length c310a), (.slice A310b y0ld.length c310b)] ∧ u3.heap.size ≤ B310 ∧ OwnS wx 1 A310a y0lc.length c310a 3 (ints y0lc) ∧ (∀ x, x ∈ gOf A310a → u3.heap.size ≤ x) ∧ (∀ x, x ∈ gOf A310a → x ≠ B310) ∧ OwnS wx 1 A310b y0ld.length c310b 4 (bools y0ld) ∧ (∀ x, x ∈ gOf A310b → u3.heap.size ≤ x) ∧ (∀ x, x ∈ gOf A310b → x ≠ B310) ∧ (∀ x, x ∈ gOf A310a → x ∉ gOf A310b) ∧ Below u3.heap.size u3 wx)
        case first =>
          obtain ⟨zb3a, cb3a0, cb3a1, cb3a2, cb3a3⟩ := (Box.step hS ba0).open4
          go_wp2_with fail
          refine (L_toFilmM (x0 := y0a) (x1 := y0b) (l0 := y0lc) (l1 := y0ld) _ by0lc by0ld (RS.step (by repeat (first | (with_reducible exact Below.refl _ _) | (with_reducible assumption) | ((with_reducible refine Below.alloc ?_ ?_ _); rotate_left; (first | omega | (simp <;> omega))) | ((with_reducible refine Below.setCell ?_ ?_ _); rotate_left; (first | omega | (simp <;> omega))) | (with_reducible refine below_drewN ?_ _) | (with_reducible refine Below.drew ?_) | ((with_reducible refine Below.step (by assumption) ?_ ?_); rotate_left; (first | omega | (simp <;> omega))))) (RS.step hS qh0a)) (RS.step (by repeat (first | (with_reducible exact Below.refl _ _) | (with_reducible assumption) | ((with_reducible refine Below.alloc ?_ ?_ _); rotate_left; (first | omega | (simp <;> omega))) | ((with_reducible refine Below.setCell ?_ ?_ _); rotate_left; (first | omega | (simp <;> omega))) | (with_reducible refine below_drewN ?_ _) | (with_reducible refine Below.drew ?_) | ((with_reducible refine Below.step (by assumption) ?_ ?_); rotate_left; (first | omega | (simp <;> omega))))) (RS.step hS qh0b))).mono ?_
          rintro e v3a ⟨Tv3aa, kv3aa, Tv3ab, kv3ab, rfl, ov3aa, ov3ab, gev3aa, gev3ab, div3a, hbv3a⟩
          have hzv3a := hbv3a.size; (try simp at hzv3a)
          have cv3aa := fun o => hbv3a.cell (p := ⟨w.heap.size, o, none⟩) (by first | omega | (simp <;> omega))
          have zv3aa : w.heap.size < v3a.heap.size := (by first | omega | (simp <;> omega))
          have ev3aa : ¬ w.heap.size = v3a.heap.size := (by omega)
          have gv3aa : ¬ v3a.heap.size = w.heap.size := (by omega)
          go_wp2_with fail
          go_meet
          exact ⟨Tv3aa, kv3aa, Tv3ab, kv3ab, _, rfl, Box.mk4 (by first | omega | (simp <;> omega)) (by go_simp) (by go_simp) (by go_simp) (by go_simp), (by first | omega | (simp <;> omega)), (by repeat (first | (with_reducible exact ov3aa) | ((with_reducible refine OwnS.far ?_ (fun x hx => ?_) _); rotate_left; (have h1 := gev3aa x hx; have h2 := OwnS.lt ov3aa x hx; (try simp at h1); first | omega | (simp <;> omega))) | (with_reducible refine OwnS.alloc ?_ _) | (with_reducible refine OwnS.drewN ?_ _) | (with_reducible refine OwnS.drew ?_) | (with_reducible refine OwnS.step (by assumption) ?_))), (fun x hx => by have h1 := gev3aa x hx; (try simp at h1); first | omega | (simp <;> omega)), (fun x hx => by have h1 := gev3aa x hx; have h2 := OwnS.lt ov3aa x hx; (try simp at h1); first | omega | (simp <;> omega)), (by repeat (first | (with_reducible exact ov3ab) | ((with_reducible refine OwnS.far ?_ (fun x hx => ?_) _); rotate_left; (have h1 := gev3ab x hx; have h2 := OwnS.lt ov3ab x hx; (try simp at h1); first | omega | (simp <;> omega))) | (with_reducible refine OwnS.alloc ?_ _) | (with_reducible refine OwnS.drewN ?_ _) | (with_reducible refine OwnS.drew ?_) | (with_reducible refine OwnS.step (by assumption) ?_))), (fun x hx => by have h1 := gev3ab x hx; (try simp at h1); first | omega | (simp <;> omega)), (fun x hx => by have h1 := gev3ab x hx; have h2 := OwnS.lt ov3ab x hx; (try simp at h1); first | omega | (simp <;> omega)), div3a, (by repeat (first | (with_reducible exact Below.refl _ _) | (with_reducible assumption) | ((with_reducible refine Below.alloc ?_ ?_ _); rotate_left; (first | omega | (simp <;> omega))) | ((with_reducible refine Below.setCell ?_ ?_ _); rotate_left; (first | omega | (simp <;> omega))) | (with_reducible refine below_drewN ?_ _) | (with_reducible refine Below.drew ?_) | ((with_reducible refine Below.step (by assumption) ?_ ?_); rotate_left; (first | omega | (simp <;> omega)))))⟩
        case rest =>
          obtain ⟨u4, rfl⟩ : ∃ u4, u4 = wc := ⟨_, rfl⟩
          obtain ⟨A310a, c310a, A310b, c310b, B310, rfl, bx310, bg310, o310a, ge310a, ne3100, o310b, ge310b, ne3101, di310, hb⟩ := hcut
          replace hB := Below.step hb hB hB.size
          have hSs := hS.size
          replace hS := Below.step hb hS hS.size
          clear hb
          go_upto_region 9 with fail
          go_cut [11] (fun s11 wx => ∃ A411a c411a, s11 = (.slice A411a y2l.length c411a) ∧ OwnS wx 1 A411a y2l.length c411a 3 (ints y2l) ∧ (∀ x, x ∈ gOf A411a → u4.heap.size ≤ x) ∧ Below u4.heap.size u4 wx)
          case first =>
            go_wp2_with fail
            refine (L_toIntSM (l := y2l) _ by2l (RS.step (by repeat (first | (with_reducible exact Below.refl _ _) | (with_reducible assumption) | ((with_reducible refine Below.alloc ?_ ?_ _); rotate_left; (first | omega | (simp <;> omega))) | ((with_reducible refine Below.setCell ?_ ?_ _); rotate_left; (first | omega | (simp <;> omega))) | (with_reducible refine below_drewN ?_ _) | (with_reducible refine Below.drew ?_) | ((with_reducible refine Below.step (by assumption) ?_ ?_); rotate_left; (first | omega | (simp <;> omega))))) (RS.step hS qh2a))).mono ?_
            rintro e v4a ⟨Tv4aa, kv4aa, rfl, ov4aa, gev4aa, hbv4a⟩
            have hzv4a := hbv4a.size; (try simp at hzv4a)
            go_wp2_with fail
            go_meet
            exact ⟨Tv4aa, kv4aa, rfl, (by repeat (first | (with_reducible exact ov4aa) | ((with_reducible refine OwnS.far ?_ (fun x hx => ?_) _); rotate_left; (have h1 := gev4aa x hx; have h2 := OwnS.lt ov4aa x hx; (try simp at h1); first | omega | (simp <;> omega))) | (with_reducible refine OwnS.alloc ?_ _) | (with_reducible refine OwnS.drewN ?_ _) | (with_reducible refine OwnS.drew ?_) | (with_reducible refine OwnS.step (by assumption) ?_))), (fun x hx => by have h1 := gev4aa x hx; (try simp at h1); first | omega | (simp <;> omega)), (by repeat (first | (with_reducible exact Below.refl _ _) | (with_reducible assumption) | ((with_reducible refine Below.alloc ?_ ?_ _); rotate_left; (first | omega | (simp <;> omega))) | ((with_reducible refine Below.setCell ?_ ?_ _); rotate_left; (first | omega | (simp <;> omega))) | (with_reducible refine below_drewN ?_ _) | (with_reducible refine Below.drew ?_) | ((with_reducible refine Below.step (by assumption) ?_ ?_); rotate_left; (first | omega | (simp <;> omega)))))⟩
          case rest =>
            obtain ⟨u5, rfl⟩ : ∃ u5, u5 = wc := ⟨_, rfl⟩
            obtain ⟨A411a, c411a, rfl, o411a, ge411a, hb⟩ := hcut
            have lto310a4 := OwnS.lt o310a
            have lto310b4 := OwnS.lt o310b
            have lbbx3104 := bx310.lt
            replace hB := Below.step hb hB hB.size
            have hSs := hS.size
            replace hS := Below.step hb hS hS.size
            replace bx310 := Box.step hb bx310
            replace o310a := OwnS.step hb o310a
            replace o310b := OwnS.step hb o310b
            clear hb
            go_upto_region 10 with fail
            go_cut [12, 13] (fun s12 s13 wx => ∃ A512a c512a A512b c512b B512, s12 = .pointer (some ⟨B512, 0, none⟩) ∧ Box wx B512 [.int .i64 r0a, .int .i64 r0b, (.slice A512a r0lc.length c512a), (.slice A512b r0ld.length c512b)] ∧ u5.heap.size ≤ B512 ∧ OwnS wx 1 A512a r0lc.length c512a 3 (ints r0lc) ∧ (∀ x, x ∈ gOf A512a → u5.heap.size ≤ x) ∧ (∀ x, x ∈ gOf A512a → x ≠ B512) ∧ OwnS wx 1 A512b r0ld.length c512b 4 (bools r0ld) ∧ (∀ x, x ∈ gOf A512b → u5.heap.size ≤ x) ∧ (∀ x, x ∈ gOf A512b → x ≠ B512) ∧ (∀ x, x ∈ gOf A512a → x ∉ gOf A512b) ∧ s13 = (.bool r1) ∧ Below u5.heap.size u5 wx)
            case first =>
              obtain ⟨zb5a, cb5a0, cb5a1, cb5a2, cb5a3⟩ := bx310.open4
              obtain ⟨zb5b, cb5b0, cb5b1, cb5b2, cb5b3⟩ := (Box.step hS ba1).open4
              go_region_held3 (fun w' => w'.cell? ⟨B310, 0, none⟩ = some (.int .i64 y0a) ∧ w'.cell? ⟨B310, 1, none⟩ = some (.int .i64 y0b) ∧ w'.cell? ⟨B310, 2, none⟩ = some ((.slice A310a y0lc.length c310a)) ∧ w'.cell? ⟨B310, 3, none⟩ = some ((.slice A310b y0ld.length c310b)) ∧ w'.cell? ⟨w.heap.size + 1, 0, none⟩ = some (.int .i64 y1a) ∧ w'.cell? ⟨w.heap.size + 1, 1, none⟩ = some (.int .i64 y1b) ∧ w'.cell? ⟨w.heap.size + 1, 2, none⟩ = some (.int .i64 y1c) ∧ w'.cell? ⟨w.heap.size + 1, 3, none⟩ = some (.int .i64 y1d))
                (first | ((try dsimp only); refine ⟨?_, ?_, ?_, ?_, ?_, ?_, ?_, ?_⟩ <;> (go_simp; done)) | go_keep)
                (first | (go_at_call 74; (with_reducible refine (L_toBucket (y1a) (y1b) (y1c) (y1d) _).mono ?_); rintro e v5a ⟨rfl, hbv5a⟩; have hzv5a := hbv5a.size; (try simp at hzv5a); have cv5aa := fun o => hbv5a.cell (p := ⟨B310, o, none⟩) (by first | omega | (simp <;> omega)); have zv5aa : B310 < v5a.heap.size := (by first | omega | (simp <;> omega)); have ev5aa : ¬ B310 = v5a.heap.size := (by omega); have gv5aa : ¬ v5a.heap.size = B310 := (by omega); have cv5ab := fun o => hbv5a.cell (p := ⟨w.heap.size + 1, o, none⟩) (by first | omega | (simp <;> omega)); have zv5ab : w.heap.size + 1 < v5a.heap.size := (by first | omega | (simp <;> omega)); have ev5ab : ¬ w.heap.size + 1 = v5a.heap.size := (by omega); have gv5ab : ¬ v5a.heap.size = w.heap.size + 1 := (by omega); (try (refine with_box hbv5a (u5.heap.size) ?_ ?_; (first | omega | (simp <;> omega)); intro ncv5a0 nfv5a0 nzv5a0))) | (go_at_call 76; (with_reducible refine (HI.out _ _ _ _ _ _ _ (RS.step (by repeat (first | (with_reducible exact Below.refl _ _) | (with_reducible assumption) | ((with_reducible refine Below.alloc ?_ ?_ _); rotate_left; (first | omega | (simp <;> omega))) | ((with_reducible refine Below.setCell ?_ ?_ _); rotate_left; (first | omega | (simp <;> omega))) | (with_reducible refine below_drewN ?_ _) | (with_reducible refine Below.drew ?_) | ((with_reducible refine Below.step (by assumption) ?_ ?_); rotate_left; (first | omega | (simp <;> omega))))) (OwnS.rs o310a)) (RS.step (by repeat (first | (with_reducible exact Below.refl _ _) | (with_reducible assumption) | ((with_reducible refine Below.alloc ?_ ?_ _); rotate_left; (first | omega | (simp <;> omega))) | ((with_reducible refine Below.setCell ?_ ?_ _); rotate_left; (first | omega | (simp <;> omega))) | (with_reducible refine below_drewN ?_ _) | (with_reducible refine Below.drew ?_) | ((with_reducible refine Below.step (by assumption) ?_ ?_); rotate_left; (first | omega | (simp <;> omega))))) (OwnS.rs o310b)) (RS.step (by repeat (first | (with_reducible exact Below.refl _ _) | (with_reducible assumption) | ((with_reducible refine Below.alloc ?_ ?_ _); rotate_left; (first | omega | (simp <;> omega))) | ((with_reducible refine Below.setCell ?_ ?_ _); rotate_left; (first | omega | (simp <;> omega))) | (with_reducible refine below_drewN ?_ _) | (with_reducible refine Below.drew ?_) | ((with_reducible refine Below.step (by assumption) ?_ ?_); rotate_left; (first | omega | (simp <;> omega))))) (OwnS.rs o411a))).mono ?_); rintro e v5b ⟨Tv5ba, kv5ba, Tv5bb, kv5bb, rfl, ov5ba, ov5bb, gev5ba, gev5bb, div5b, hbv5b⟩; have hzv5b := hbv5b.size; (try simp at hzv5b); have cv5ba := fun o => hbv5b.cell (p := ⟨B310, o, none⟩) (by first | omega | (simp <;> omega)); have zv5ba : B310 < v5b.heap.size := (by first | omega | (simp <;> omega)); have ev5ba : ¬ B310 = v5b.heap.size := (by omega); have gv5ba : ¬ v5b.heap.size = B310 := (by omega); have cv5bb := fun o => hbv5b.cell (p := ⟨w.heap.size + 1, o, none⟩) (by first | omega | (simp <;> omega)); have zv5bb : w.heap.size + 1 < v5b.heap.size := (by first | omega | (simp <;> omega)); have ev5bb : ¬ w.heap.size + 1 = v5b.heap.size := (by omega); have gv5bb : ¬ v5b.heap.size = w.heap.size + 1 := (by omega); (try (refine with_box hbv5b (u5.heap.size) ?_ ?_; (first | omega | (simp <;> omega)); intro ncv5b0 nfv5b0 nzv5b0)); (try (refine with_box hbv5b (v5a.heap.size) ?_ ?_; (first | omega | (simp <;> omega)); intro ncv5b1 nfv5b1 nzv5b1))))
              all_goals
                go_wp2_with fail
                go_meet
                exact ⟨Tv5ba, kv5ba, Tv5bb, kv5bb, _, rfl, Box.mk4 (by first | omega | (simp <;> omega)) (by go_simp) (by go_simp) (by go_simp) (by go_simp), (by first | omega | (simp <;> omega)), (by repeat (first | (with_reducible exact ov5ba) | ((with_reducible refine OwnS.far ?_ (fun x hx => ?_) _); rotate_left; (have h1 := gev5ba x hx; have h2 := OwnS.lt ov5ba x hx; (try simp at h1); first | omega | (simp <;> omega))) | (with_reducible refine OwnS.alloc ?_ _) | (with_reducible refine OwnS.drewN ?_ _) | (with_reducible refine OwnS.drew ?_) | (with_reducible refine OwnS.step (by assumption) ?_))), (fun x hx => by have h1 := gev5ba x hx; (try simp at h1); first | omega | (simp <;> omega)), (fun x hx => by have h1 := gev5ba x hx; have h2 := OwnS.lt ov5ba x hx; (try simp at h1); first | omega | (simp <;> omega)), (by repeat (first | (with_reducible exact ov5bb) | ((with_reducible refine OwnS.far ?_ (fun x hx => ?_) _); rotate_left; (have h1 := gev5bb x hx; have h2 := OwnS.lt ov5bb x hx; (try simp at h1); first | omega | (simp <;> omega))) | (with_reducible refine OwnS.alloc ?_ _) | (with_reducible refine OwnS.drewN ?_ _) | (with_reducible refine OwnS.drew ?_) | (with_reducible refine OwnS.step (by assumption) ?_))), (fun x hx => by have h1 := gev5bb x hx; (try simp at h1); first | omega | (simp <;> omega)), (fun x hx => by have h1 := gev5bb x hx; have h2 := OwnS.lt ov5bb x hx; (try simp at h1); first | omega | (simp <;> omega)), div5b, rfl, (by repeat (first | (with_reducible exact Below.refl _ _) | (with_reducible assumption) | ((with_reducible refine Below.alloc ?_ ?_ _); rotate_left; (first | omega | (simp <;> omega))) | ((with_reducible refine Below.setCell ?_ ?_ _); rotate_left; (first | omega | (simp <;> omega))) | (with_reducible refine below_drewN ?_ _) | (with_reducible refine Below.drew ?_) | ((with_reducible refine Below.step (by assumption) ?_ ?_); rotate_left; (first | omega | (simp <;> omega)))))⟩
            case rest =>
              obtain ⟨u6, rfl⟩ : ∃ u6, u6 = wc := ⟨_, rfl⟩
              obtain ⟨A512a, c512a, A512b, c512b, B512, rfl, bx512, bg512, o512a, ge512a, ne5120, o512b, ge512b, ne5121, di512, rfl, hb⟩ := hcut
              have lto310a5 := OwnS.lt o310a
              have lto310b5 := OwnS.lt o310b
              have lbbx3105 := bx310.lt
              have lto411a5 := OwnS.lt o411a
              replace hB := Below.step hb hB hB.size
              have hSs := hS.size
              replace hS := Below.step hb hS hS.size
              replace bx310 := Box.step hb bx310
              replace o310a := OwnS.step hb o310a
              replace o310b := OwnS.step hb o310b
              replace o411a := OwnS.step hb o411a
              clear hb
              go_upto_region 11 with fail
              go_cut [57] (fun sd wx => sd = .bool false ∧ Below u6.heap.size u6 wx)
              case first =>
                obtain ⟨zb6a, cb6a0, cb6a1, cb6a2, cb6a3⟩ := bx512.open4
                obtain ⟨zb6b, cb6b0, cb6b1, cb6b2, cb6b3⟩ := (Box.step hS bx28).open4
                go_wp2_with fail
                refine (L_eqFilm _ (RS.step (by repeat (first | (with_reducible exact Below.refl _ _) | (with_reducible assumption) | ((with_reducible refine Below.alloc ?_ ?_ _); rotate_left; (first | omega | (simp <;> omega))) | ((with_reducible refine Below.setCell ?_ ?_ _); rotate_left; (first | omega | (simp <;> omega))) | (with_reducible refine below_drewN ?_ _) | (with_reducible refine Below.drew ?_) | ((with_reducible refine Below.step (by assumption) ?_ ?_); rotate_left; (first | omega | (simp <;> omega))))) (OwnS.rs o512a)) (RS.step (by repeat (first | (with_reducible exact Below.refl _ _) | (with_reducible assumption) | ((with_reducible refine Below.alloc ?_ ?_ _); rotate_left; (first | omega | (simp <;> omega))) | ((with_reducible refine Below.setCell ?_ ?_ _); rotate_left; (first | omega | (simp <;> omega))) | (with_reducible refine below_drewN ?_ _) | (with_reducible refine Below.drew ?_) | ((with_reducible refine Below.step (by assumption) ?_ ?_); rotate_left; (first | omega | (simp <;> omega))))) (OwnS.rs o512b)) (RS.step (by repeat (first | (with_reducible exact Below.refl _ _) | (with_reducible assumption) | ((with_reducible refine Below.alloc ?_ ?_ _); rotate_left; (first | omega | (simp <;> omega))) | ((with_reducible refine Below.setCell ?_ ?_ _); rotate_left; (first | omega | (simp <;> omega))) | (with_reducible refine below_drewN ?_ _) | (with_reducible refine Below.drew ?_) | ((with_reducible refine Below.step (by assumption) ?_ ?_); rotate_left; (first | omega | (simp <;> omega))))) (RS.step hS o28a)) (RS.step (by repeat (first | (with_reducible exact Below.refl _ _) | (with_reducible assumption) | ((with_reducible refine Below.alloc ?_ ?_ _); rotate_left; (first | omega | (simp <;> omega))) | ((with_reducible refine Below.setCell ?_ ?_ _); rotate_left; (first | omega | (simp <;> omega))) | (with_reducible refine below_drewN ?_ _) | (with_reducible refine Below.drew ?_) | ((with_reducible refine Below.step (by assumption) ?_ ?_); rotate_left; (first | omega | (simp <;> omega))))) (RS.step hS o28b))).mono ?_
                rintro e v6a ⟨rfl, hbv6a⟩
                have hzv6a := hbv6a.size; (try simp at hzv6a)
                have cv6aa := fun o => hbv6a.cell (p := ⟨B512, o, none⟩) (by first | omega | (simp <;> omega))
                have zv6aa : B512 < v6a.heap.size := (by first | omega | (simp <;> omega))
                have ev6aa : ¬ B512 = v6a.heap.size := (by omega)
                have gv6aa : ¬ v6a.heap.size = B512 := (by omega)
                have cv6ab := fun o => hbv6a.cell (p := ⟨B28, o, none⟩) (by first | omega | (simp <;> omega))
                have zv6ab : B28 < v6a.heap.size := (by first | omega | (simp <;> omega))
                have ev6ab : ¬ B28 = v6a.heap.size := (by omega)
                have gv6ab : ¬ v6a.heap.size = B28 := (by omega)
                go_wp2_with fail
                go_meet
                exact ⟨rfl, (by repeat (first | (with_reducible exact Below.refl _ _) | (with_reducible assumption) | ((with_reducible refine Below.alloc ?_ ?_ _); rotate_left; (first | omega | (simp <;> omega))) | ((with_reducible refine Below.setCell ?_ ?_ _); rotate_left; (first | omega | (simp <;> omega))) | (with_reducible refine below_drewN ?_ _) | (with_reducible refine Below.drew ?_) | ((with_reducible refine Below.step (by assumption) ?_ ?_); rotate_left; (first | omega | (simp <;> omega)))))⟩
              case rest =>
                obtain ⟨u7, rfl⟩ : ∃ u7, u7 = wc := ⟨_, rfl⟩
                obtain ⟨rfl, hb⟩ := hcut
                replace hB := Below.step hb hB hB.size
                replace hS := Below.step hb hS hS.size
                replace bx310 := Box.step hb bx310
                replace o310a := OwnS.step hb o310a
                replace o310b := OwnS.step hb o310b
                replace o411a := OwnS.step hb o411a
                replace bx512 := Box.step hb bx512
                replace o512a := OwnS.step hb o512a
                replace o512b := OwnS.step hb o512b
                clear hb
                go_upto_region 13 with fail
                go_cut [62] (fun sd wx => sd = .bool false ∧ Below u7.heap.size u7 wx)
                case first =>
                  obtain ⟨zb7a, cb7a0, cb7a1, cb7a2, cb7a3⟩ := bx310.open4
                  obtain ⟨zb7b, cb7b0, cb7b1, cb7b2, cb7b3⟩ := (Box.step hS ba0).open4
                  go_region_held3 (fun w' => w'.cell? ⟨B310, 0, none⟩ = some (.int .i64 y0a) ∧ w'.cell? ⟨B310, 1, none⟩ = some (.int .i64 y0b) ∧ w'.cell? ⟨B310, 2, none⟩ = some ((.slice A310a y0lc.length c310a)) ∧ w'.cell? ⟨B310, 3, none⟩ = some ((.slice A310b y0ld.length c310b)) ∧ w'.cell? ⟨w.heap.size, 0, none⟩ = some (.int .i64 y0a) ∧ w'.cell? ⟨w.heap.size, 1, none⟩ = some (.int .i64 y0b) ∧ w'.cell? ⟨w.heap.size, 2, none⟩ = some ((.slice A0a y0lc.length p0a)) ∧ w'.cell? ⟨w.heap.size, 3, none⟩ = some ((.slice A0b y0ld.length p0b)))
                    (first | ((try dsimp only); refine ⟨?_, ?_, ?_, ?_, ?_, ?_, ?_, ?_⟩ <;> (go_simp; done)) | go_keep)
                    (first | (go_at_call 59; (with_reducible refine (L_toFilmM (x0 := y0a) (x1 := y0b) (l0 := y0lc) (l1 := y0ld) _ by0lc by0ld (RS.step (by repeat (first | (with_reducible exact Below.refl _ _) | (with_reducible assumption) | ((with_reducible refine Below.alloc ?_ ?_ _); rotate_left; (first | omega | (simp <;> omega))) | ((with_reducible refine Below.setCell ?_ ?_ _); rotate_left; (first | omega | (simp <;> omega))) | (with_reducible refine below_drewN ?_ _) | (with_reducible refine Below.drew ?_) | ((with_reducible refine Below.step (by assumption) ?_ ?_); rotate_left; (first | omega | (simp <;> omega))))) (RS.step hS qh0a)) (RS.step (by repeat (first | (with_reducible exact Below.refl _ _) | (with_reducible assumption) | ((with_reducible refine Below.alloc ?_ ?_ _); rotate_left; (first | omega | (simp <;> omega))) | ((with_reducible refine Below.setCell ?_ ?_ _); rotate_left; (first | omega | (simp <;> omega))) | (with_reducible refine below_drewN ?_ _) | (with_reducible refine Below.drew ?_) | ((with_reducible refine Below.step (by assumption) ?_ ?_); rotate_left; (first | omega | (simp <;> omega))))) (RS.step hS qh0b))).mono ?_); rintro e v7a ⟨Tv7aa, kv7aa, Tv7ab, kv7ab, rfl, ov7aa, ov7ab, gev7aa, gev7ab, div7a, hbv7a⟩; have hzv7a := hbv7a.size; (try simp at hzv7a); have cv7aa := fun o => hbv7a.cell (p := ⟨B310, o, none⟩) (by first | omega | (simp <;> omega)); have zv7aa : B310 < v7a.heap.size := (by first | omega | (simp <;> omega)); have ev7aa : ¬ B310 = v7a.heap.size := (by omega); have gv7aa : ¬ v7a.heap.size = B310 := (by omega); have cv7ab := fun o => hbv7a.cell (p := ⟨w.heap.size, o, none⟩) (by first | omega | (simp <;> omega)); have zv7ab : w.heap.size < v7a.heap.size := (by first | omega | (simp <;> omega)); have ev7ab : ¬ w.heap.size = v7a.heap.size := (by omega); have gv7ab : ¬ v7a.heap.size = w.heap.size := (by omega)) | (go_at_call 61; (with_reducible refine (L_eqFilm _ (RS.step (by repeat (first | (with_reducible exact Below.refl _ _) | (with_reducible assumption) | ((with_reducible refine Below.alloc ?_ ?_ _); rotate_left; (first | omega | (simp <;> omega))) | ((with_reducible refine Below.setCell ?_ ?_ _); rotate_left; (first | omega | (simp <;> omega))) | (with_reducible refine below_drewN ?_ _) | (with_reducible refine Below.drew ?_) | ((with_reducible refine Below.step (by assumption) ?_ ?_); rotate_left; (first | omega | (simp <;> omega))))) (OwnS.rs o310a)) (RS.step (by repeat (first | (with_reducible exact Below.refl _ _) | (with_reducible assumption) | ((with_reducible refine Below.alloc ?_ ?_ _); rotate_left; (first | omega | (simp <;> omega))) | ((with_reducible refine Below.setCell ?_ ?_ _); rotate_left; (first | omega | (simp <;> omega))) | (with_reducible refine below_drewN ?_ _) | (with_reducible refine Below.drew ?_) | ((with_reducible refine Below.step (by assumption) ?_ ?_); rotate_left; (first | omega | (simp <;> omega))))) (OwnS.rs o310b)) (RS.step (by repeat (first | (with_reducible exact Below.refl _ _) | (with_reducible assumption) | ((with_reducible refine Below.alloc ?_ ?_ _); rotate_left; (first | omega | (simp <;> omega))) | ((with_reducible refine Below.setCell ?_ ?_ _); rotate_left; (first | omega | (simp <;> omega))) | (with_reducible refine below_drewN ?_ _) | (with_reducible refine Below.drew ?_) | ((with_reducible refine Below.step (by assumption) ?_ ?_); rotate_left; (first | omega | (simp <;> omega))))) (OwnS.rs ov7aa)) (RS.step (by repeat (first | (with_reducible exact Below.refl _ _) | (with_reducible assumption) | ((with_reducible refine Below.alloc ?_ ?_ _); rotate_left; (first | omega | (simp <;> omega))) | ((with_reducible refine Below.setCell ?_ ?_ _); rotate_left; (first | omega | (simp <;> omega))) | (with_reducible refine below_drewN ?_ _) | (with_reducible refine Below.drew ?_) | ((with_reducible refine Below.step (by assumption) ?_ ?_); rotate_left; (first | omega | (simp <;> omega))))) (OwnS.rs ov7ab))).mono ?_); rintro e v7b ⟨rfl, hbv7b⟩; have hzv7b := hbv7b.size; (try simp at hzv7b); have cv7ba := fun o => hbv7b.cell (p := ⟨B310, o, none⟩) (by first | omega | (simp <;> omega)); have zv7ba : B310 < v7b.heap.size := (by first | omega | (simp <;> omega)); have ev7ba : ¬ B310 = v7b.heap.size := (by omega); have gv7ba : ¬ v7b.heap.size = B310 := (by omega); have cv7bb := fun o => hbv7b.cell (p := ⟨w.heap.size, o, none⟩) (by first | omega | (simp <;> omega)); have zv7bb : w.heap.size < v7b.heap.size := (by first | omega | (simp <;> omega)); have ev7bb : ¬ w.heap.size = v7b.heap.size := (by omega); have gv7bb : ¬ v7b.heap.size = w.heap.size := (by omega)))
                  all_goals
                    go_wp2_with fail
                    go_meet
                    exact ⟨rfl, (by repeat (first | (with_reducible exact Below.refl _ _) | (with_reducible assumption) | ((with_reducible refine Below.alloc ?_ ?_ _); rotate_left; (first | omega | (simp <;> omega))) | ((with_reducible refine Below.setCell ?_ ?_ _); rotate_left; (first | omega | (simp <;> omega))) | (with_reducible refine below_drewN ?_ _) | (with_reducible refine Below.drew ?_) | ((with_reducible refine Below.step (by assumption) ?_ ?_); rotate_left; (first | omega | (simp <;> omega)))))⟩
                case rest =>
                  obtain ⟨u8, rfl⟩ : ∃ u8, u8 = wc := ⟨_, rfl⟩
                  obtain ⟨rfl, hb⟩ := hcut
                  replace hB := Below.step hb hB hB.size
                  replace hS := Below.step hb hS hS.size
                  replace bx310 := Box.step hb bx310
                  replace o310a := OwnS.step hb o310a
                  replace o310b := OwnS.step hb o310b
                  replace o411a := OwnS.step hb o411a
                  replace bx512 := Box.step hb bx512
                  replace o512a := OwnS.step hb o512a
                  replace o512b := OwnS.step hb o512b
                  clear hb
                  go_upto_region 15 with fail
                  go_cut [67] (fun sd wx => sd = .bool false ∧ Below u8.heap.size u8 wx)
                  case first =>
                    go_wp2_with fail
                    refine (L_toIntSM (l := y2l) _ by2l (RS.step (by repeat (first | (with_reducible exact Below.refl _ _) | (with_reducible assumption) | ((with_reducible refine Below.alloc ?_ ?_ _); rotate_left; (first | omega | (simp <;> omega))) | ((with_reducible refine Below.setCell ?_ ?_ _); rotate_left; (first | omega | (simp <;> omega))) | (with_reducible refine below_drewN ?_ _) | (with_reducible refine Below.drew ?_) | ((with_reducible refine Below.step (by assumption) ?_ ?_); rotate_left; (first | omega | (simp <;> omega))))) (RS.step hS qh2a))).mono ?_
                    rintro e v8a ⟨Tv8aa, kv8aa, rfl, ov8aa, gev8aa, hbv8a⟩
                    have hzv8a := hbv8a.size; (try simp at hzv8a)
                    go_wp2_with fail
                    refine (L_eqIntS _ _ _ _ _ _ _ (RS.step (by repeat (first | (with_reducible exact Below.refl _ _) | (with_reducible assumption) | ((with_reducible refine Below.alloc ?_ ?_ _); rotate_left; (first | omega | (simp <;> omega))) | ((with_reducible refine Below.setCell ?_ ?_ _); rotate_left; (first | omega | (simp <;> omega))) | (with_reducible refine below_drewN ?_ _) | (with_reducible refine Below.drew ?_) | ((with_reducible refine Below.step (by assumption) ?_ ?_); rotate_left; (first | omega | (simp <;> omega))))) (OwnS.rs o411a)) (RS.step (by repeat (first | (with_reducible exact Below.refl _ _) | (with_reducible assumption) | ((with_reducible refine Below.alloc ?_ ?_ _); rotate_left; (first | omega | (simp <;> omega))) | ((with_reducible refine Below.setCell ?_ ?_ _); rotate_left; (first | omega | (simp <;> omega))) | (with_reducible refine below_drewN ?_ _) | (with_reducible refine Below.drew ?_) | ((with_reducible refine Below.step (by assumption) ?_ ?_); rotate_left; (first | omega | (simp <;> omega))))) (OwnS.rs ov8aa))).mono ?_
                    rintro e v8b ⟨rfl, hbv8b⟩
                    have hzv8b := hbv8b.size; (try simp at hzv8b)
                    go_wp2_with fail
                    go_meet
                    exact ⟨rfl, (by repeat (first | (with_reducible exact Below.refl _ _) | (with_reducible assumption) | ((with_reducible refine Below.alloc ?_ ?_ _); rotate_left; (first | omega | (simp <;> omega))) | ((with_reducible refine Below.setCell ?_ ?_ _); rotate_left; (first | omega | (simp <;> omega))) | (with_reducible refine below_drewN ?_ _) | (with_reducible refine Below.drew ?_) | ((with_reducible refine Below.step (by assumption) ?_ ?_); rotate_left; (first | omega | (simp <;> omega)))))⟩
                  case rest =>
                    obtain ⟨u9, rfl⟩ : ∃ u9, u9 = wc := ⟨_, rfl⟩
                    obtain ⟨rfl, hb⟩ := hcut
                    replace hB := Below.step hb hB hB.size
                    replace hS := Below.step hb hS hS.size
                    replace bx310 := Box.step hb bx310
                    replace o310a := OwnS.step hb o310a
                    replace o310b := OwnS.step hb o310b
                    replace o411a := OwnS.step hb o411a
                    replace bx512 := Box.step hb bx512
                    replace o512a := OwnS.step hb o512a
                    replace o512b := OwnS.step hb o512b
                    clear hb
                    go_upto_region 18 with fail
                    go_cut [14] (fun sd wx => sd = .int .i64 ((1 : Int) + (y0lc.length : Int) + (y0ld.length : Int)) ∧ OwnS wx 1 A310a y0lc.length c310a 3 (ints (upFrom (1 : Int) y0lc.length)) ∧ OwnS wx 1 A310b y0ld.length c310b 4 (bools (thirds ((1 : Int) + (y0lc.length : Int)) y0ld.length)) ∧ Only u9.heap.size (gOf A310a ++ gOf A310b) u9 wx)
                    case first =>
                      obtain ⟨zb9a, cb9a0, cb9a1, cb9a2, cb9a3⟩ := bx310.open4
                      go_wp2_with fail
                      refine (L_markFilmG _ o310a (by omega) o310b (by omega) di310 (by omega) (by omega)).mono ?_
                      rintro e v9a ⟨rfl, ov9aa, ov9ab, hOv9a⟩
                      have hzv9a := hOv9a.size
                      go_wp2_with fail
                      go_meet
                      exact ⟨rfl, ov9aa, ov9ab, hOv9a⟩
                    case rest =>
                      obtain ⟨u10, rfl⟩ : ∃ u10, u10 = wc := ⟨_, rfl⟩
                      obtain ⟨rfl, nw0, nw1, hO⟩ := hcut
                      have hG : ∀ y, y ∈ gOf A310a ++ gOf A310b → u3.heap.size ≤ y := fun y hx => (List.mem_append.1 hx).elim (ge310a y) (ge310b y)
                      replace hB := hB.trans (hO.below hB.size (fun y hy => by have := hG y hy; omega))
                      replace hS := hS.trans (hO.below hS.size (fun y hy => by have := hG y hy; omega))
                      replace bx310 := Box.only hO bx310 bx310.lt (fun hy => (List.mem_append.1 hy).elim (fun h => ne3100 _ h rfl) (fun h => ne3101 _ h rfl))
                      have hL : ∀ y, y ∈ gOf A310a ++ gOf A310b → y < u4.heap.size := fun y hx => (List.mem_append.1 hx).elim (lto310a4 y) (lto310b4 y)
                      replace o411a := OwnS.only o411a hO (fun y hy => ⟨OwnS.lt o411a y hy, fun hx => by have h1 := hL y hx; have h2 := ge411a y hy; omega⟩)
                      have hL : ∀ y, y ∈ gOf A310a ++ gOf A310b → y < u5.heap.size := fun y hx => (List.mem_append.1 hx).elim (lto310a5 y) (lto310b5 y)
                      replace bx512 := Box.only hO bx512 bx512.lt (fun hy => by have := hL _ hy; omega)
                      replace o512a := OwnS.only o512a hO (fun y hy => ⟨OwnS.lt o512a y hy, fun hx => by have h1 := hL y hx; have h2 := ge512a y hy; omega⟩)
                      replace o512b := OwnS.only o512b hO (fun y hy => ⟨OwnS.lt o512b y hy, fun hx => by have h1 := hL y hx; have h2 := ge512b y hy; omega⟩)
                      clear o310a
                      have o310a := nw0
                      clear nw0
                      clear o310b
                      have o310b := nw1
                      clear nw1
                      clear hO hG
                      have t9 : ¬ (1 : Int) + (y0lc.length : Int) + (y0ld.length : Int) < 0 := by omega
                      go_upto_region 19 with fail
                      go_cut [14] (fun sd wx => sd = .int .i64 (((1 : Int) + (y0lc.length : Int) + (y0ld.length : Int)) + (y2l.length : Int)) ∧ OwnS wx 1 A411a y2l.length c411a 3 (ints (upFrom ((1 : Int) + (y0lc.length : Int) + (y0ld.length : Int)) y2l.length)) ∧ Only u10.heap.size (gOf A411a) u10 wx)
                      case first =>
                        go_wp2_with fail
                        refine (L_markIntSG _ o411a (by omega) (by omega) (by omega)).mono ?_
                        rintro e v10a ⟨rfl, ov10aa, hOv10a⟩
                        have hzv10a := hOv10a.size
                        go_wp2_with fail
                        go_meet
                        exact ⟨rfl, ov10aa, hOv10a⟩
                      case rest =>
                        obtain ⟨u11, rfl⟩ : ∃ u11, u11 = wc := ⟨_, rfl⟩
                        obtain ⟨rfl, nw0, hO⟩ := hcut
                        have hG : ∀ y, y ∈ gOf A411a → u4.heap.size ≤ y := ge411a
                        replace hB := hB.trans (hO.below hB.size (fun y hy => by have := hG y hy; omega))
                        replace hS := hS.trans (hO.below hS.size (fun y hy => by have := hG y hy; omega))
                        replace bx310 := Box.only hO bx310 bx310.lt (fun hy => by have h1 := hG _ hy; have h2 := lbbx3104; omega)
                        replace o310a := OwnS.only o310a hO (fun y hy => ⟨OwnS.lt o310a y hy, fun hx => by have h1 := hG y hx; have h2 := lto310a4 y hy; omega⟩)
                        replace o310b := OwnS.only o310b hO (fun y hy => ⟨OwnS.lt o310b y hy, fun hx => by have h1 := hG y hx; have h2 := lto310b4 y hy; omega⟩)
                        have hL : ∀ y, y ∈ gOf A411a → y < u5.heap.size := lto411a5
                        replace bx512 := Box.only hO bx512 bx512.lt (fun hy => by have := hL _ hy; omega)
                        replace o512a := OwnS.only o512a hO (fun y hy => ⟨OwnS.lt o512a y hy, fun hx => by have h1 := hL y hx; have h2 := ge512a y hy; omega⟩)
                        replace o512b := OwnS.only o512b hO (fun y hy => ⟨OwnS.lt o512b y hy, fun hx => by have h1 := hL y hx; have h2 := ge512b y hy; omega⟩)
                        clear o411a
                        have o411a := nw0
                        clear nw0
                        clear hO hG
                        have t10 : ¬ ((1 : Int) + (y0lc.length : Int) + (y0ld.length : Int)) + (y2l.length : Int) < 0 := by omega
                        go_upto_region 20 with fail
                        go_cut [86] (fun sd wx => sd = .bool false ∧ Below u11.heap.size u11 wx)
                        case first =>
                          obtain ⟨zb11a, cb11a0, cb11a1, cb11a2, cb11a3⟩ := bx512.open4
                          obtain ⟨zb11b, cb11b0, cb11b1, cb11b2, cb11b3⟩ := (Box.step hS bx28).open4
                          go_wp2_with fail
                          refine (L_eqFilm _ (RS.step (by repeat (first | (with_reducible exact Below.refl _ _) | (with_reducible assumption) | ((with_reducible refine Below.alloc ?_ ?_ _); rotate_left; (first | omega | (simp <;> omega))) | ((with_reducible refine Below.setCell ?_ ?_ _); rotate_left; (first | omega | (simp <;> omega))) | (with_reducible refine below_drewN ?_ _) | (with_reducible refine Below.drew ?_) | ((with_reducible refine Below.step (by assumption) ?_ ?_); rotate_left; (first | omega | (simp <;> omega))))) (OwnS.rs o512a)) (RS.step (by repeat (first | (with_reducible exact Below.refl _ _) | (with_reducible assumption) | ((with_reducible refine Below.alloc ?_ ?_ _); rotate_left; (first | omega | (simp <;> omega))) | ((with_reducible refine Below.setCell ?_ ?_ _); rotate_left; (first | omega | (simp <;> omega))) | (with_reducible refine below_drewN ?_ _) | (with_reducible refine Below.drew ?_) | ((with_reducible refine Below.step (by assumption) ?_ ?_); rotate_left; (first | omega | (simp <;> omega))))) (OwnS.rs o512b)) (RS.step (by repeat (first | (with_reducible exact Below.refl _ _) | (with_reducible assumption) | ((with_reducible refine Below.alloc ?_ ?_ _); rotate_left; (first | omega | (simp <;> omega))) | ((with_reducible refine Below.setCell ?_ ?_ _); rotate_left; (first | omega | (simp <;> omega))) | (with_reducible refine below_drewN ?_ _) | (with_reducible refine Below.drew ?_) | ((with_reducible refine Below.step (by assumption) ?_ ?_); rotate_left; (first | omega | (simp <;> omega))))) (RS.step hS o28a)) (RS.step (by repeat (first | (with_reducible exact Below.refl _ _) | (with_reducible assumption) | ((with_reducible refine Below.alloc ?_ ?_ _); rotate_left; (first | omega | (simp <;> omega))) | ((with_reducible refine Below.setCell ?_ ?_ _); rotate_left; (first | omega | (simp <;> omega))) | (with_reducible refine below_drewN ?_ _) | (with_reducible refine Below.drew ?_) | ((with_reducible refine Below.step (by assumption) ?_ ?_); rotate_left; (first | omega | (simp <;> omega))))) (RS.step hS o28b))).mono ?_
                          rintro e v11a ⟨rfl, hbv11a⟩
                          have hzv11a := hbv11a.size; (try simp at hzv11a)
                          have cv11aa := fun o => hbv11a.cell (p := ⟨B512, o, none⟩) (by first | omega | (simp <;> omega))
                          have zv11aa : B512 < v11a.heap.size := (by first | omega | (simp <;> omega))
                          have ev11aa : ¬ B512 = v11a.heap.size := (by omega)
                          have gv11aa : ¬ v11a.heap.size = B512 := (by omega)
                          have cv11ab := fun o => hbv11a.cell (p := ⟨B28, o, none⟩) (by first | omega | (simp <;> omega))
                          have zv11ab : B28 < v11a.heap.size := (by first | omega | (simp <;> omega))
                          have ev11ab : ¬ B28 = v11a.heap.size := (by omega)
                          have gv11ab : ¬ v11a.heap.size = B28 := (by omega)
                          go_wp2_with fail
                          go_meet
                          exact ⟨rfl, (by repeat (first | (with_reducible exact Below.refl _ _) | (with_reducible assumption) | ((with_reducible refine Below.alloc ?_ ?_ _); rotate_left; (first | omega | (simp <;> omega))) | ((with_reducible refine Below.setCell ?_ ?_ _); rotate_left; (first | omega | (simp <;> omega))) | (with_reducible refine below_drewN ?_ _) | (with_reducible refine Below.drew ?_) | ((with_reducible refine Below.step (by assumption) ?_ ?_); rotate_left; (first | omega | (simp <;> omega)))))⟩
                        case rest =>
                          obtain ⟨u12, rfl⟩ : ∃ u12, u12 = wc := ⟨_, rfl⟩
                          obtain ⟨rfl, hb⟩ := hcut
                          replace hB := Below.step hb hB hB.size
                          replace hS := Below.step hb hS hS.size
                          replace bx310 := Box.step hb bx310
                          replace o310a := OwnS.step hb o310a
                          replace o310b := OwnS.step hb o310b
                          replace o411a := OwnS.step hb o411a
                          replace bx512 := Box.step hb bx512
                          replace o512a := OwnS.step hb o512a
                          replace o512b := OwnS.step hb o512b
                          clear hb
                          go_upto_region 23 with fail
                          go_cut [15] (fun sd wx => sd = .int .i64 ((1 : Int) + (r0lc.length : Int) + (r0ld.length : Int)) ∧ OwnS wx 1 A512a r0lc.length c512a 3 (ints (upFrom (1 : Int) r0lc.length)) ∧ OwnS wx 1 A512b r0ld.length c512b 4 (bools (thirds ((1 : Int) + (r0lc.length : Int)) r0ld.length)) ∧ Only u12.heap.size (gOf A512a ++ gOf A512b) u12 wx)
                          case first =>
                            obtain ⟨zb12a, cb12a0, cb12a1, cb12a2, cb12a3⟩ := bx512.open4
                            go_wp2_with fail
                            refine (L_markFilmG _ o512a (by omega) o512b (by omega) di512 (by omega) (by omega)).mono ?_
                            rintro e v12a ⟨rfl, ov12aa, ov12ab, hOv12a⟩
                            have hzv12a := hOv12a.size
                            go_wp2_with fail
                            go_meet
                            exact ⟨rfl, ov12aa, ov12ab, hOv12a⟩
                          case rest =>
                            obtain ⟨u13, rfl⟩ : ∃ u13, u13 = wc := ⟨_, rfl⟩
                            obtain ⟨rfl, nw0, nw1, hO⟩ := hcut
                            have hG : ∀ y, y ∈ gOf A512a ++ gOf A512b → u5.heap.size ≤ y := fun y hx => (List.mem_append.1 hx).elim (ge512a y) (ge512b y)
                            replace hB := hB.trans (hO.below hB.size (fun y hy => by have := hG y hy; omega))
                            replace hS := hS.trans (hO.below hS.size (fun y hy => by have := hG y hy; omega))
                            replace bx310 := Box.only hO bx310 bx310.lt (fun hy => by have h1 := hG _ hy; have h2 := lbbx3105; omega)
                            replace o310a := OwnS.only o310a hO (fun y hy => ⟨OwnS.lt o310a y hy, fun hx => by have h1 := hG y hx; have h2 := lto310a5 y hy; omega⟩)
                            replace o310b := OwnS.only o310b hO (fun y hy => ⟨OwnS.lt o310b y hy, fun hx => by have h1 := hG y hx; have h2 := lto310b5 y hy; omega⟩)
                            replace o411a := OwnS.only o411a hO (fun y hy => ⟨OwnS.lt o411a y hy, fun hx => by have h1 := hG y hx; have h2 := lto411a5 y hy; omega⟩)
                            replace bx512 := Box.only hO bx512 bx512.lt (fun hy => (List.mem_append.1 hy).elim (fun h => ne5120 _ h rfl) (fun h => ne5121 _ h rfl))
                            clear o512a
                            have o512a := nw0
                            clear nw0
                            clear o512b
                            have o512b := nw1
                            clear nw1
                            clear hO hG
                            have t12 : ¬ (1 : Int) + (r0lc.length : Int) + (r0ld.length : Int) < 0 := by omega
                            go_upto_region 25 with fail
                            go_cut [16] (fun sd wx => sd = .int .i64 ((1 : Int) + (r0lc.length : Int) + (r0ld.length : Int)) ∧ Below u13.heap.size u13 wx)
                            case first =>
                              obtain ⟨zb13a, cb13a0, cb13a1, cb13a2, cb13a3⟩ := bx512.open4
                              go_wp2_with fail
                              refine (L_heldFilmG _ o512a (by omega) o512b (by omega) (by omega) (by omega)).mono ?_
                              rintro e v13a ⟨rfl, hbv13a⟩
                              have hzv13a := hbv13a.size; (try simp at hzv13a)
                              have cv13aa := fun o => hbv13a.cell (p := ⟨B512, o, none⟩) (by first | omega | (simp <;> omega))
                              have zv13aa : B512 < v13a.heap.size := (by first | omega | (simp <;> omega))
                              have ev13aa : ¬ B512 = v13a.heap.size := (by omega)
                              have gv13aa : ¬ v13a.heap.size = B512 := (by omega)
                              go_wp2_with fail
                              go_meet
                              exact ⟨rfl, (by repeat (first | (with_reducible exact Below.refl _ _) | (with_reducible assumption) | ((with_reducible refine Below.alloc ?_ ?_ _); rotate_left; (first | omega | (simp <;> omega))) | ((with_reducible refine Below.setCell ?_ ?_ _); rotate_left; (first | omega | (simp <;> omega))) | (with_reducible refine below_drewN ?_ _) | (with_reducible refine Below.drew ?_) | ((with_reducible refine Below.step (by assumption) ?_ ?_); rotate_left; (first | omega | (simp <;> omega)))))⟩
                            case rest =>
                              obtain ⟨u14, rfl⟩ : ∃ u14, u14 = wc := ⟨_, rfl⟩
                              obtain ⟨rfl, hb⟩ := hcut
                              replace hB := Below.step hb hB hB.size
                              replace hS := Below.step hb hS hS.size
                              replace bx310 := Box.step hb bx310
                              replace o310a := OwnS.step hb o310a
                              replace o310b := OwnS.step hb o310b
                              replace o411a := OwnS.step hb o411a
                              replace bx512 := Box.step hb bx512
                              replace o512a := OwnS.step hb o512a
                              replace o512b := OwnS.step hb o512b
                              clear hb
                              have t13 : ¬ (1 : Int) + (r0lc.length : Int) + (r0ld.length : Int) < 0 := by omega
                              go_upto_region 30 with fail
                              go_cut [17, 18] (fun s17 s18 wx => ∃ A1417a c1417a A1417b c1417b B1417, s17 = .pointer (some ⟨B1417, 0, none⟩) ∧ Box wx B1417 [.int .i64 r0a, .int .i64 r0b, (.slice A1417a r0lc.length c1417a), (.slice A1417b r0ld.length c1417b)] ∧ u14.heap.size ≤ B1417 ∧ OwnS wx 1 A1417a r0lc.length c1417a 3 (ints r0lc) ∧ (∀ x, x ∈ gOf A1417a → u14.heap.size ≤ x) ∧ (∀ x, x ∈ gOf A1417a → x ≠ B1417) ∧ OwnS wx 1 A1417b r0ld.length c1417b 4 (bools r0ld) ∧ (∀ x, x ∈ gOf A1417b → u14.heap.size ≤ x) ∧ (∀ x, x ∈ gOf A1417b → x ≠ B1417) ∧ (∀ x, x ∈ gOf A1417a → x ∉ gOf A1417b) ∧ s18 = (.bool r1) ∧ Below u14.heap.size u14 wx)
                              case first =>
                                obtain ⟨zb14a, cb14a0, cb14a1, cb14a2, cb14a3⟩ := (Box.step hS ba0).open4
                                obtain ⟨zb14b, cb14b0, cb14b1, cb14b2, cb14b3⟩ := (Box.step hS ba1).open4
                                go_region_held3 (fun w' => w'.cell? ⟨w.heap.size, 0, none⟩ = some (.int .i64 y0a) ∧ w'.cell? ⟨w.heap.size, 1, none⟩ = some (.int .i64 y0b) ∧ w'.cell? ⟨w.heap.size, 2, none⟩ = some ((.slice A0a y0lc.length p0a)) ∧ w'.cell? ⟨w.heap.size, 3, none⟩ = some ((.slice A0b y0ld.length p0b)) ∧ w'.cell? ⟨w.heap.size + 1, 0, none⟩ = some (.int .i64 y1a) ∧ w'.cell? ⟨w.heap.size + 1, 1, none⟩ = some (.int .i64 y1b) ∧ w'.cell? ⟨w.heap.size + 1, 2, none⟩ = some (.int .i64 y1c) ∧ w'.cell? ⟨w.heap.size + 1, 3, none⟩ = some (.int .i64 y1d))
                                  (first | ((try dsimp only); refine ⟨?_, ?_, ?_, ?_, ?_, ?_, ?_, ?_⟩ <;> (go_simp; done)) | go_keep)
                                  (first | (go_at_call 59; (with_reducible refine (L_toFilmM (x0 := y0a) (x1 := y0b) (l0 := y0lc) (l1 := y0ld) _ by0lc by0ld (RS.step (by repeat (first | (with_reducible exact Below.refl _ _) | (with_reducible assumption) | ((with_reducible refine Below.alloc ?_ ?_ _); rotate_left; (first | omega | (simp <;> omega))) | ((with_reducible refine Below.setCell ?_ ?_ _); rotate_left; (first | omega | (simp <;> omega))) | (with_reducible refine below_drewN ?_ _) | (with_reducible refine Below.drew ?_) | ((with_reducible refine Below.step (by assumption) ?_ ?_); rotate_left; (first | omega | (simp <;> omega))))) (RS.step hS qh0a)) (RS.step (by repeat (first | (with_reducible exact Below.refl _ _) | (with_reducible assumption) | ((with_reducible refine Below.alloc ?_ ?_ _); rotate_left; (first | omega | (simp <;> omega))) | ((with_reducible refine Below.setCell ?_ ?_ _); rotate_left; (first | omega | (simp <;> omega))) | (with_reducible refine below_drewN ?_ _) | (with_reducible refine Below.drew ?_) | ((with_reducible refine Below.step (by assumption) ?_ ?_); rotate_left; (first | omega | (simp <;> omega))))) (RS.step hS qh0b))).mono ?_); rintro e v14a ⟨Tv14aa, kv14aa, Tv14ab, kv14ab, rfl, ov14aa, ov14ab, gev14aa, gev14ab, div14a, hbv14a⟩; have hzv14a := hbv14a.size; (try simp at hzv14a); have cv14aa := fun o => hbv14a.cell (p := ⟨w.heap.size, o, none⟩) (by first | omega | (simp <;> omega)); have zv14aa : w.heap.size < v14a.heap.size := (by first | omega | (simp <;> omega)); have ev14aa : ¬ w.heap.size = v14a.heap.size := (by omega); have gv14aa : ¬ v14a.heap.size = w.heap.size := (by omega); have cv14ab := fun o => hbv14a.cell (p := ⟨w.heap.size + 1, o, none⟩) (by first | omega | (simp <;> omega)); have zv14ab : w.heap.size + 1 < v14a.heap.size := (by first | omega | (simp <;> omega)); have ev14ab : ¬ w.heap.size + 1 = v14a.heap.size := (by omega); have gv14ab : ¬ v14a.heap.size = w.heap.size + 1 := (by omega); (try (refine with_box hbv14a (u14.heap.size) ?_ ?_; (first | omega | (simp <;> omega)); intro ncv14a0 nfv14a0 nzv14a0))) | (go_at_call 74; (with_reducible refine (L_toBucket (y1a) (y1b) (y1c) (y1d) _).mono ?_); rintro e v14b ⟨rfl, hbv14b⟩; have hzv14b := hbv14b.size; (try simp at hzv14b); have cv14ba := fun o => hbv14b.cell (p := ⟨w.heap.size, o, none⟩) (by first | omega | (simp <;> omega)); have zv14ba : w.heap.size < v14b.heap.size := (by first | omega | (simp <;> omega)); have ev14ba : ¬ w.heap.size = v14b.heap.size := (by omega); have gv14ba : ¬ v14b.heap.size = w.heap.size := (by omega); have cv14bb := fun o => hbv14b.cell (p := ⟨w.heap.size + 1, o, none⟩) (by first | omega | (simp <;> omega)); have zv14bb : w.heap.size + 1 < v14b.heap.size := (by first | omega | (simp <;> omega)); have ev14bb : ¬ w.heap.size + 1 = v14b.heap.size := (by omega); have gv14bb : ¬ v14b.heap.size = w.heap.size + 1 := (by omega); (try (refine with_box hbv14b (u14.heap.size) ?_ ?_; (first | omega | (simp <;> omega)); intro ncv14b0 nfv14b0 nzv14b0)); (try (refine with_box hbv14b (v14a.heap.size) ?_ ?_; (first | omega | (simp <;> omega)); intro ncv14b1 nfv14b1 nzv14b1))) | (go_at_call 75; (with_reducible refine (L_toIntSM (l := y2l) _ by2l (RS.step (by repeat (first | (with_reducible exact Below.refl _ _) | (with_reducible assumption) | ((with_reducible refine Below.alloc ?_ ?_ _); rotate_left; (first | omega | (simp <;> omega))) | ((with_reducible refine Below.setCell ?_ ?_ _); rotate_left; (first | omega | (simp <;> omega))) | (with_reducible refine below_drewN ?_ _) | (with_reducible refine Below.drew ?_) | ((with_reducible refine Below.step (by assumption) ?_ ?_); rotate_left; (first | omega | (simp <;> omega))))) (RS.step hS qh2a))).mono ?_); rintro e v14c ⟨Tv14ca, kv14ca, rfl, ov14ca, gev14ca, hbv14c⟩; have hzv14c := hbv14c.size; (try simp at hzv14c); have cv14ca := fun o => hbv14c.cell (p := ⟨w.heap.size, o, none⟩) (by first | omega | (simp <;> omega)); have zv14ca : w.heap.size < v14c.heap.size := (by first | omega | (simp <;> omega)); have ev14ca : ¬ w.heap.size = v14c.heap.size := (by omega); have gv14ca : ¬ v14c.heap.size = w.heap.size := (by omega); have cv14cb := fun o => hbv14c.cell (p := ⟨w.heap.size + 1, o, none⟩) (by first | omega | (simp <;> omega)); have zv14cb : w.heap.size + 1 < v14c.heap.size := (by first | omega | (simp <;> omega)); have ev14cb : ¬ w.heap.size + 1 = v14c.heap.size := (by omega); have gv14cb : ¬ v14c.heap.size = w.heap.size + 1 := (by omega); (try (refine with_box hbv14c (u14.heap.size) ?_ ?_; (first | omega | (simp <;> omega)); intro ncv14c0 nfv14c0 nzv14c0)); (try (refine with_box hbv14c (v14a.heap.size) ?_ ?_; (first | omega | (simp <;> omega)); intro ncv14c1 nfv14c1 nzv14c1)); (try (refine with_box hbv14c (v14b.heap.size) ?_ ?_; (first | omega | (simp <;> omega)); intro ncv14c2 nfv14c2 nzv14c2))) | (go_at_call 76; (with_reducible refine (HI.out _ _ _ _ _ _ _ (RS.step (by repeat (first | (with_reducible exact Below.refl _ _) | (with_reducible assumption) | ((with_reducible refine Below.alloc ?_ ?_ _); rotate_left; (first | omega | (simp <;> omega))) | ((with_reducible refine Below.setCell ?_ ?_ _); rotate_left; (first | omega | (simp <;> omega))) | (with_reducible refine below_drewN ?_ _) | (with_reducible refine Below.drew ?_) | ((with_reducible refine Below.step (by assumption) ?_ ?_); rotate_left; (first | omega | (simp <;> omega))))) (OwnS.rs ov14aa)) (RS.step (by repeat (first | (with_reducible exact Below.refl _ _) | (with_reducible assumption) | ((with_reducible refine Below.alloc ?_ ?_ _); rotate_left; (first | omega | (simp <;> omega))) | ((with_reducible refine Below.setCell ?_ ?_ _); rotate_left; (first | omega | (simp <;> omega))) | (with_reducible refine below_drewN ?_ _) | (with_reducible refine Below.drew ?_) | ((with_reducible refine Below.step (by assumption) ?_ ?_); rotate_left; (first | omega | (simp <;> omega))))) (OwnS.rs ov14ab)) (RS.step (by repeat (first | (with_reducible exact Below.refl _ _) | (with_reducible assumption) | ((with_reducible refine Below.alloc ?_ ?_ _); rotate_left; (first | omega | (simp <;> omega))) | ((with_reducible refine Below.setCell ?_ ?_ _); rotate_left; (first | omega | (simp <;> omega))) | (with_reducible refine below_drewN ?_ _) | (with_reducible refine Below.drew ?_) | ((with_reducible refine Below.step (by assumption) ?_ ?_); rotate_left; (first | omega | (simp <;> omega))))) (OwnS.rs ov14ca))).mono ?_); rintro e v14d ⟨Tv14da, kv14da, Tv14db, kv14db, rfl, ov14da, ov14db, gev14da, gev14db, div14d, hbv14d⟩; have hzv14d := hbv14d.size; (try simp at hzv14d); have cv14da := fun o => hbv14d.cell (p := ⟨w.heap.size, o, none⟩) (by first | omega | (simp <;> omega)); have zv14da : w.heap.size < v14d.heap.size := (by first | omega | (simp <;> omega)); have ev14da : ¬ w.heap.size = v14d.heap.size := (by omega); have gv14da : ¬ v14d.heap.size = w.heap.size := (by omega); have cv14db := fun o => hbv14d.cell (p := ⟨w.heap.size + 1, o, none⟩) (by first | omega | (simp <;> omega)); have zv14db : w.heap.size + 1 < v14d.heap.size := (by first | omega | (simp <;> omega)); have ev14db : ¬ w.heap.size + 1 = v14d.heap.size := (by omega); have gv14db : ¬ v14d.heap.size = w.heap.size + 1 := (by omega); (try (refine with_box hbv14d (u14.heap.size) ?_ ?_; (first | omega | (simp <;> omega)); intro ncv14d0 nfv14d0 nzv14d0)); (try (refine with_box hbv14d (v14a.heap.size) ?_ ?_; (first | omega | (simp <;> omega)); intro ncv14d1 nfv14d1 nzv14d1)); (try (refine with_box hbv14d (v14b.heap.size) ?_ ?_; (first | omega | (simp <;> omega)); intro ncv14d2 nfv14d2 nzv14d2)); (try (refine with_box hbv14d (v14c.heap.size) ?_ ?_; (first | omega | (simp <;> omega)); intro ncv14d3 nfv14d3 nzv14d3))))
                                all_goals
                                  go_wp2_with fail
                                  go_meet
                                  exact ⟨Tv14da, kv14da, Tv14db, kv14db, _, rfl, Box.mk4 (by first | omega | (simp <;> omega)) (by go_simp) (by go_simp) (by go_simp) (by go_simp), (by first | omega | (simp <;> omega)), (by repeat (first | (with_reducible exact ov14da) | ((with_reducible refine OwnS.far ?_ (fun x hx => ?_) _); rotate_left; (have h1 := gev14da x hx; have h2 := OwnS.lt ov14da x hx; (try simp at h1); first | omega | (simp <;> omega))) | (with_reducible refine OwnS.alloc ?_ _) | (with_reducible refine OwnS.drewN ?_ _) | (with_reducible refine OwnS.drew ?_) | (with_reducible refine OwnS.step (by assumption) ?_))), (fun x hx => by have h1 := gev14da x hx; (try simp at h1); first | omega | (simp <;> omega)), (fun x hx => by have h1 := gev14da x hx; have h2 := OwnS.lt ov14da x hx; (try simp at h1); first | omega | (simp <;> omega)), (by repeat (first | (with_reducible exact ov14db) | ((with_reducible refine OwnS.far ?_ (fun x hx => ?_) _); rotate_left; (have h1 := gev14db x hx; have h2 := OwnS.lt ov14db x hx; (try simp at h1); first | omega | (simp <;> omega))) | (with_reducible refine OwnS.alloc ?_ _) | (with_reducible refine OwnS.drewN ?_ _) | (with_reducible refine OwnS.drew ?_) | (with_reducible refine OwnS.step (by assumption) ?_))), (fun x hx => by have h1 := gev14db x hx; (try simp at h1); first | omega | (simp <;> omega)), (fun x hx => by have h1 := gev14db x hx; have h2 := OwnS.lt ov14db x hx; (try simp at h1); first | omega | (simp <;> omega)), div14d, rfl, (by repeat (first | (with_reducible exact Below.refl _ _) | (with_reducible assumption) | ((with_reducible refine Below.alloc ?_ ?_ _); rotate_left; (first | omega | (simp <;> omega))) | ((with_reducible refine Below.setCell ?_ ?_ _); rotate_left; (first | omega | (simp <;> omega))) | (with_reducible refine below_drewN ?_ _) | (with_reducible refine Below.drew ?_) | ((with_reducible refine Below.step (by assumption) ?_ ?_); rotate_left; (first | omega | (simp <;> omega)))))⟩
                              case rest =>
                                obtain ⟨u15, rfl⟩ : ∃ u15, u15 = wc := ⟨_, rfl⟩
                                obtain ⟨A1417a, c1417a, A1417b, c1417b, B1417, rfl, bx1417, bg1417, o1417a, ge1417a, ne14170, o1417b, ge1417b, ne14171, di1417, rfl, hb⟩ := hcut
                                have lto310a14 := OwnS.lt o310a
                                have lto310b14 := OwnS.lt o310b
                                have lbbx31014 := bx310.lt
                                have lto411a14 := OwnS.lt o411a
                                have lto512a14 := OwnS.lt o512a
                                have lto512b14 := OwnS.lt o512b
                                have lbbx51214 := bx512.lt
                                replace hB := Below.step hb hB hB.size
                                have hSs := hS.size
                                replace hS := Below.step hb hS hS.size
                                replace bx310 := Box.step hb bx310
                                replace o310a := OwnS.step hb o310a
                                replace o310b := OwnS.step hb o310b
                                replace o411a := OwnS.step hb o411a
                                replace bx512 := Box.step hb bx512
                                replace o512a := OwnS.step hb o512a
                                replace o512b := OwnS.step hb o512b
                                clear hb
                                go_upto_region 31 with fail
                                go_cut [116] (fun sd wx => sd = .bool false ∧ Below u15.heap.size u15 wx)
                                case first =>
                                  obtain ⟨zb15a, cb15a0, cb15a1, cb15a2, cb15a3⟩ := bx1417.open4
                                  obtain ⟨zb15b, cb15b0, cb15b1, cb15b2, cb15b3⟩ := (Box.step hS bx28).open4
                                  go_wp2_with fail
                                  refine (L_eqFilm _ (RS.step (by repeat (first | (with_reducible exact Below.refl _ _) | (with_reducible assumption) | ((with_reducible refine Below.alloc ?_ ?_ _); rotate_left; (first | omega | (simp <;> omega))) | ((with_reducible refine Below.setCell ?_ ?_ _); rotate_left; (first | omega | (simp <;> omega))) | (with_reducible refine below_drewN ?_ _) | (with_reducible refine Below.drew ?_) | ((with_reducible refine Below.step (by assumption) ?_ ?_); rotate_left; (first | omega | (simp <;> omega))))) (OwnS.rs o1417a)) (RS.step (by repeat (first | (with_reducible exact Below.refl _ _) | (with_reducible assumption) | ((with_reducible refine Below.alloc ?_ ?_ _); rotate_left; (first | omega | (simp <;> omega))) | ((with_reducible refine Below.setCell ?_ ?_ _); rotate_left; (first | omega | (simp <;> omega))) | (with_reducible refine below_drewN ?_ _) | (with_reducible refine Below.drew ?_) | ((with_reducible refine Below.step (by assumption) ?_ ?_); rotate_left; (first | omega | (simp <;> omega))))) (OwnS.rs o1417b)) (RS.step (by repeat (first | (with_reducible exact Below.refl _ _) | (with_reducible assumption) | ((with_reducible refine Below.alloc ?_ ?_ _); rotate_left; (first | omega | (simp <;> omega))) | ((with_reducible refine Below.setCell ?_ ?_ _); rotate_left; (first | omega | (simp <;> omega))) | (with_reducible refine below_drewN ?_ _) | (with_reducible refine Below.drew ?_) | ((with_reducible refine Below.step (by assumption) ?_ ?_); rotate_left; (first | omega | (simp <;> omega))))) (RS.step hS o28a)) (RS.step (by repeat (first | (with_reducible exact Below.refl _ _) | (with_reducible assumption) | ((with_reducible refine Below.alloc ?_ ?_ _); rotate_left; (first | omega | (simp <;> omega))) | ((with_reducible refine Below.setCell ?_ ?_ _); rotate_left; (first | omega | (simp <;> omega))) | (with_reducible refine below_drewN ?_ _) | (with_reducible refine Below.drew ?_) | ((with_reducible refine Below.step (by assumption) ?_ ?_); rotate_left; (first | omega | (simp <;> omega))))) (RS.step hS o28b))).mono ?_
                                  rintro e v15a ⟨rfl, hbv15a⟩
                                  have hzv15a := hbv15a.size; (try simp at hzv15a)
                                  have cv15aa := fun o => hbv15a.cell (p := ⟨B1417, o, none⟩) (by first | omega | (simp <;> omega))
                                  have zv15aa : B1417 < v15a.heap.size := (by first | omega | (simp <;> omega))
                                  have ev15aa : ¬ B1417 = v15a.heap.size := (by omega)
                                  have gv15aa : ¬ v15a.heap.size = B1417 := (by omega)
                                  have cv15ab := fun o => hbv15a.cell (p := ⟨B28, o, none⟩) (by first | omega | (simp <;> omega))
                                  have zv15ab : B28 < v15a.heap.size := (by first | omega | (simp <;> omega))
                                  have ev15ab : ¬ B28 = v15a.heap.size := (by omega)
                                  have gv15ab : ¬ v15a.heap.size = B28 := (by omega)
                                  go_wp2_with fail
                                  go_meet
                                  exact ⟨rfl, (by repeat (first | (with_reducible exact Below.refl _ _) | (with_reducible assumption) | ((with_reducible refine Below.alloc ?_ ?_ _); rotate_left; (first | omega | (simp <;> omega))) | ((with_reducible refine Below.setCell ?_ ?_ _); rotate_left; (first | omega | (simp <;> omega))) | (with_reducible refine below_drewN ?_ _) | (with_reducible refine Below.drew ?_) | ((with_reducible refine Below.step (by assumption) ?_ ?_); rotate_left; (first | omega | (simp <;> omega)))))⟩
                                case rest =>
                                  obtain ⟨u16, rfl⟩ : ∃ u16, u16 = wc := ⟨_, rfl⟩
                                  obtain ⟨rfl, hb⟩ := hcut
                                  replace hB := Below.step hb hB hB.size
                                  replace hS := Below.step hb hS hS.size
                                  replace bx310 := Box.step hb bx310
                                  replace o310a := OwnS.step hb o310a
                                  replace o310b := OwnS.step hb o310b
                                  replace o411a := OwnS.step hb o411a
                                  replace bx512 := Box.step hb bx512
                                  replace o512a := OwnS.step hb o512a
                                  replace o512b := OwnS.step hb o512b
                                  replace bx1417 := Box.step hb bx1417
                                  replace o1417a := OwnS.step hb o1417a
                                  replace o1417b := OwnS.step hb o1417b
                                  clear hb
                                  go_upto_region 34 with fail
                                  go_cut [16] (fun sd wx => sd = .int .i64 ((1 : Int) + (r0lc.length : Int) + (r0ld.length : Int)) ∧ Below u16.heap.size u16 wx)
                                  case first =>
                                    obtain ⟨zb16a, cb16a0, cb16a1, cb16a2, cb16a3⟩ := bx512.open4
                                    go_wp2_with fail
                                    refine (L_heldFilmG _ o512a (by omega) o512b (by omega) (by omega) (by omega)).mono ?_
                                    rintro e v16a ⟨rfl, hbv16a⟩
                                    have hzv16a := hbv16a.size; (try simp at hzv16a)
                                    have cv16aa := fun o => hbv16a.cell (p := ⟨B512, o, none⟩) (by first | omega | (simp <;> omega))
                                    have zv16aa : B512 < v16a.heap.size := (by first | omega | (simp <;> omega))
                                    have ev16aa : ¬ B512 = v16a.heap.size := (by omega)
                                    have gv16aa : ¬ v16a.heap.size = B512 := (by omega)
                                    go_wp2_with fail
                                    go_meet
                                    exact ⟨rfl, (by repeat (first | (with_reducible exact Below.refl _ _) | (with_reducible assumption) | ((with_reducible refine Below.alloc ?_ ?_ _); rotate_left; (first | omega | (simp <;> omega))) | ((with_reducible refine Below.setCell ?_ ?_ _); rotate_left; (first | omega | (simp <;> omega))) | (with_reducible refine below_drewN ?_ _) | (with_reducible refine Below.drew ?_) | ((with_reducible refine Below.step (by assumption) ?_ ?_); rotate_left; (first | omega | (simp <;> omega)))))⟩
                                  case rest =>
                                    obtain ⟨u17, rfl⟩ : ∃ u17, u17 = wc := ⟨_, rfl⟩
                                    obtain ⟨rfl, hb⟩ := hcut
                                    replace hB := Below.step hb hB hB.size
                                    replace hS := Below.step hb hS hS.size
                                    replace bx310 := Box.step hb bx310
                                    replace o310a := OwnS.step hb o310a
                                    replace o310b := OwnS.step hb o310b
                                    replace o411a := OwnS.step hb o411a
                                    replace bx512 := Box.step hb bx512
                                    replace o512a := OwnS.step hb o512a
                                    replace o512b := OwnS.step hb o512b
                                    replace bx1417 := Box.step hb bx1417
                                    replace o1417a := OwnS.step hb o1417a
                                    replace o1417b := OwnS.step hb o1417b
                                    clear hb
                                    have t16 : ¬ (1 : Int) + (r0lc.length : Int) + (r0ld.length : Int) < 0 := by omega
                                    go_wp2
                                    go_ret
                                    exact ⟨rfl, hB⟩
theorem L_ExPutBucket (y0a y0b : Int) (y0lc : List Int) (y0ld : List Bool) (A0a : Option Addr) (p0a : Nat) (A0b : Option Addr) (p0b : Nat) (y1a : Int) (y1b : Int) (y1c : Int) (y1d : Int) (y2l : List Int) (A2a : Option Addr) (p2a : Nat) (w : World)  (h0a : RS w 1 A0a y0lc.length p0a (ints y0lc)) (h0b : RS w 1 A0b y0ld.length p0b (bools y0ld)) (h2a : RS w 1 A2a y2l.length p2a (ints y2l)) :
    Calls Try.prog 13 #[(vFilm y0a y0b (.slice A0a y0lc.length p0a) (.slice A0b y0ld.length p0b)), (.agg #[.int .i64 y1a, .int .i64 y1b, .int .i64 y1c, .int .i64 y1d]), (.slice A2a y2l.length p2a)] w fun e w' => e = .returned (.bool true) ∧ Below w.heap.size w w' := by
  have hl := putS_len y0a y0b y0lc y0ld y1a y1b y1c y1d y2l
  have hl2 := putT_len y0a y0b y0lc y0ld y1a y1b y1c y1d y2l
  exact L_ExPutBucket1 y0a y0b y0lc y0ld A0a p0a A0b p0b y1a y1b y1c y1d y2l A2a p2a y0a y0b (putS y0a y0b y0lc y0ld y1a y1b y1c y1d y2l) (putT y0a y0b y0lc y0ld y1a y1b y1c y1d y2l) (putOk y0a y0b y0lc y0ld y1a y1b y1c y1d y2l) w h0a h0b h2a (by omega) (by omega) (Lib.hid fun e1 e2 A p B q C r wx a1 a2 a3 => by have := S_PutBucket (W := y0a) (H := y0b) (x := y1a) (y := y1b) (p := y1c) (q := y1d) wx e1 e2 a1 a2 a3; rw [hl, hl2]; exact this) (Lib.hid fun e1 e2 A p B q C r wx a1 a2 a3 => by have := I_PutBucket (W := y0a) (H := y0b) (x := y1a) (y := y1b) (p := y1c) (q := y1d) wx e1 e2 a1 a2 a3; rw [hl, hl2]; exact this)
theorem FnExactPutBucket_walk : LawWalk 13 [96, 115, 36] := by
  intro H enc W base args ds ps hA hval hlt
  obtain ⟨v0, v1, v2, rfl, a0, a1, a2⟩ := args3 hA hval
  obtain ⟨y0a, y0b, A0a, p0a, y0lc, A0b, p0b, y0ld, rfl, h0a, h0b⟩ := a0.film
  obtain ⟨y1a, y1b, y1c, y1d, rfl, _⟩ := a1.bucket
  obtain ⟨A2a, p2a, y2l, rfl, h2a⟩ := a2.intS
  exact L_ExPutBucket y0a y0b y0lc y0ld A0a p0a A0b p0b y1a y1b y1c y1d y2l A2a p2a W h0a h0b h2a
end Go.Proofs.Ythfnldjldfkmnaa
