/- MADE BY PROGRAM (genlaw.py). The law FnExactMergeFilms. -/
import Derived.Test.YthfnldjldfkmnaaMergeFS
import Derived.Test.YthfnldjldfkmnaaMergeFI
import Derived.Test.YthfnldjldfkmnaaMade
import Derived.Deep.RegionHeld3
import Derived.Deep.DeepCutAuto
namespace Go.Proofs.Ythfnldjldfkmnaa
open Go.ChangeShapes Go.WideShapes Go.ChangeAt Go.RowKit
set_option linter.unusedVariables false
set_option maxRecDepth 100000
set_option maxHeartbeats 8000000 in
theorem L_ExMergeFilms1 (y0a y0b : Int) (y0lc : List Int) (y0ld : List Bool) (A0a : Option Addr) (p0a : Nat) (A0b : Option Addr) (p0b : Nat) (y1a y1b : Int) (y1lc : List Int) (y1ld : List Bool) (A1a : Option Addr) (p1a : Nat) (A1b : Option Addr) (p1b : Nat) (r0a r0b : Int) (r0lc : List Int) (r0ld : List Bool) (r1 : Bool) (w : World) (h0a : RS w 1 A0a y0lc.length p0a (ints y0lc)) (h0b : RS w 1 A0b y0ld.length p0b (bools y0ld)) (h1a : RS w 1 A1a y1lc.length p1a (ints y1lc)) (h1b : RS w 1 A1b y1ld.length p1b (bools y1ld)) (br0lc : r0lc.length ≤ 1048576) (br0ld : r0ld.length ≤ 1048576) (HS : Hid (∀ (A0a : Option Addr) (p0a : Nat), ∀ (A0b : Option Addr) (p0b : Nat), ∀ (A1a : Option Addr) (p1a : Nat), ∀ (A1b : Option Addr) (p1b : Nat), ∀ (wx : World), RS wx 1 A0a y0lc.length p0a (ints y0lc) → RS wx 1 A0b y0ld.length p0b (bools y0ld) → RS wx 1 A1a y1lc.length p1a (ints y1lc) → RS wx 1 A1b y1ld.length p1b (bools y1ld) → Calls Try.prog 58 #[(vFilm y0a y0b (.slice A0a y0lc.length p0a) (.slice A0b y0ld.length p0b)), (vFilm y1a y1b (.slice A1a y1lc.length p1a) (.slice A1b y1ld.length p1b))] wx (MadeFilm (fun s0 s1 => .tuple #[(vFilm r0a r0b s0 s1), (.bool r1)]) r0lc.length (ints r0lc) r0ld.length (bools r0ld) wx))) (HI : Hid (∀ (A0a : Option Addr) (p0a : Nat), ∀ (A0b : Option Addr) (p0b : Nat), ∀ (A1a : Option Addr) (p1a : Nat), ∀ (A1b : Option Addr) (p1b : Nat), ∀ (wx : World), RS wx 1 A0a y0lc.length p0a (ints y0lc) → RS wx 1 A0b y0ld.length p0b (bools y0ld) → RS wx 1 A1a y1lc.length p1a (ints y1lc) → RS wx 1 A1b y1ld.length p1b (bools y1ld) → Calls Try.prog 60 #[(vFilm y0a y0b (.slice A0a y0lc.length p0a) (.slice A0b y0ld.length p0b)), (vFilm y1a y1b (.slice A1a y1lc.length p1a) (.slice A1b y1ld.length p1b))] wx (MadeFilm (fun s0 s1 => .tuple #[(vFilm r0a r0b s0 s1), (.bool r1)]) r0lc.length (ints r0lc) r0ld.length (bools r0ld) wx))) :
    Calls Try.prog 11 #[(vFilm y0a y0b (.slice A0a y0lc.length p0a) (.slice A0b y0ld.length p0b)), (vFilm y1a y1b (.slice A1a y1lc.length p1a) (.slice A1b y1ld.length p1b))] w fun e w' => e = .returned (.bool true) ∧ Below w.heap.size w w' := by
  have mh0a := h0a.len
  have mh0b := h0b.len
  have mh1a := h1a.len
  have mh1b := h1b.len
  unfold maxLen at *
  go_enter Try.func11, Try.ntmps11
  go_upto_region 1 with fail
  go_cut [5] (fun sl wx => sl = .int .i64 1048576 ∧ Box wx (w.heap.size) [.int .i64 y0a, .int .i64 y0b, (.slice A0a y0lc.length p0a), (.slice A0b y0ld.length p0b)] ∧ Box wx (w.heap.size + 1) [.int .i64 y1a, .int .i64 y1b, (.slice A1a y1lc.length p1a), (.slice A1b y1ld.length p1b)] ∧ RS wx 1 A0a y0lc.length p0a (ints y0lc) ∧ RS wx 1 A0b y0ld.length p0b (bools y0ld) ∧ RS wx 1 A1a y1lc.length p1a (ints y1lc) ∧ RS wx 1 A1b y1ld.length p1b (bools y1ld) ∧ Below w.heap.size w wx)
  case first =>
    go_wp2_with fail
    go_meet
    exact ⟨rfl, Box.of_own (t := 96) (by repeat (first | (exact Own.at_lit (by simp)) | (with_reducible refine Own.alloc ?_ _))), Box.of_own (t := 96) (by repeat (first | (exact Own.at_lit (by simp)) | (with_reducible refine Own.alloc ?_ _))), (RS.step (by repeat (first | (with_reducible exact Below.refl _ _) | (with_reducible assumption) | ((with_reducible refine Below.alloc ?_ ?_ _); rotate_left; (first | omega | (simp <;> omega))) | ((with_reducible refine Below.setCell ?_ ?_ _); rotate_left; (first | omega | (simp <;> omega))) | (with_reducible refine below_drewN ?_ _) | (with_reducible refine Below.drew ?_) | ((with_reducible refine Below.step (by assumption) ?_ ?_); rotate_left; (first | omega | (simp <;> omega))))) h0a), (RS.step (by repeat (first | (with_reducible exact Below.refl _ _) | (with_reducible assumption) | ((with_reducible refine Below.alloc ?_ ?_ _); rotate_left; (first | omega | (simp <;> omega))) | ((with_reducible refine Below.setCell ?_ ?_ _); rotate_left; (first | omega | (simp <;> omega))) | (with_reducible refine below_drewN ?_ _) | (with_reducible refine Below.drew ?_) | ((with_reducible refine Below.step (by assumption) ?_ ?_); rotate_left; (first | omega | (simp <;> omega))))) h0b), (RS.step (by repeat (first | (with_reducible exact Below.refl _ _) | (with_reducible assumption) | ((with_reducible refine Below.alloc ?_ ?_ _); rotate_left; (first | omega | (simp <;> omega))) | ((with_reducible refine Below.setCell ?_ ?_ _); rotate_left; (first | omega | (simp <;> omega))) | (with_reducible refine below_drewN ?_ _) | (with_reducible refine Below.drew ?_) | ((with_reducible refine Below.step (by assumption) ?_ ?_); rotate_left; (first | omega | (simp <;> omega))))) h1a), (RS.step (by repeat (first | (with_reducible exact Below.refl _ _) | (with_reducible assumption) | ((with_reducible refine Below.alloc ?_ ?_ _); rotate_left; (first | omega | (simp <;> omega))) | ((with_reducible refine Below.setCell ?_ ?_ _); rotate_left; (first | omega | (simp <;> omega))) | (with_reducible refine below_drewN ?_ _) | (with_reducible refine Below.drew ?_) | ((with_reducible refine Below.step (by assumption) ?_ ?_); rotate_left; (first | omega | (simp <;> omega))))) h1b), (by repeat (first | (with_reducible exact Below.refl _ _) | (with_reducible assumption) | ((with_reducible refine Below.alloc ?_ ?_ _); rotate_left; (first | omega | (simp <;> omega))) | ((with_reducible refine Below.setCell ?_ ?_ _); rotate_left; (first | omega | (simp <;> omega))) | (with_reducible refine below_drewN ?_ _) | (with_reducible refine Below.drew ?_) | ((with_reducible refine Below.step (by assumption) ?_ ?_); rotate_left; (first | omega | (simp <;> omega)))))⟩
  case rest =>
    obtain ⟨u1, rfl⟩ : ∃ u1, u1 = wc := ⟨_, rfl⟩
    obtain ⟨rfl, ba0, ba1, qh0a, qh0b, qh1a, qh1b, hB⟩ := hcut
    go_upto_region 2 with fail
    go_cut [5] (fun sl wx => (sl = .int .i64 (-1) ∨ ∃ z : Int, sl = .int .i64 z ∧ 0 ≤ z ∧ z ≤ 1048576 ∧ (y0lc.length : Int) ≤ 1048576 ∧ (y0ld.length : Int) ≤ 1048576) ∧ Below u1.heap.size u1 wx)
    case first =>
      obtain ⟨zb1a, cb1a0, cb1a1, cb1a2, cb1a3⟩ := ba0.open4
      go_wp2_with fail
      refine (L_szFilm _ (by first | omega | assumption) (by first | omega | assumption) (by unfold maxLen; first | omega | assumption) (by unfold maxLen; first | omega | assumption)).mono ?_
      rintro e v1a ⟨rfl, hbv1a⟩
      have hzv1a := hbv1a.size; (try simp at hzv1a)
      have cv1aa := fun o => hbv1a.cell (p := ⟨w.heap.size, o, none⟩) (by first | omega | (simp <;> omega))
      have zv1aa : w.heap.size < v1a.heap.size := (by first | omega | (simp <;> omega))
      have ev1aa : ¬ w.heap.size = v1a.heap.size := (by omega)
      have gv1aa : ¬ v1a.heap.size = w.heap.size := (by omega)
      go_wp2_with fail
      go_meet
      rcases szF2_or (1048576) y0lc.length y0ld.length with hq | ⟨hq0, hq1, hq2, hq3⟩
      · exact ⟨.inl (by rw [hq]), (by repeat (first | (with_reducible exact Below.refl _ _) | (with_reducible assumption) | ((with_reducible refine Below.alloc ?_ ?_ _); rotate_left; (first | omega | (simp <;> omega))) | ((with_reducible refine Below.setCell ?_ ?_ _); rotate_left; (first | omega | (simp <;> omega))) | (with_reducible refine below_drewN ?_ _) | (with_reducible refine Below.drew ?_) | ((with_reducible refine Below.step (by assumption) ?_ ?_); rotate_left; (first | omega | (simp <;> omega)))))⟩
      · exact ⟨.inr ⟨_, rfl, hq0, hq1, hq2, hq3⟩, (by repeat (first | (with_reducible exact Below.refl _ _) | (with_reducible assumption) | ((with_reducible refine Below.alloc ?_ ?_ _); rotate_left; (first | omega | (simp <;> omega))) | ((with_reducible refine Below.setCell ?_ ?_ _); rotate_left; (first | omega | (simp <;> omega))) | (with_reducible refine below_drewN ?_ _) | (with_reducible refine Below.drew ?_) | ((with_reducible refine Below.step (by assumption) ?_ ?_); rotate_left; (first | omega | (simp <;> omega)))))⟩
    case rest =>
      obtain ⟨u2, rfl⟩ : ∃ u2, u2 = wc := ⟨_, rfl⟩
      obtain ⟨hsl, hb⟩ := hcut
      replace hB := Below.step hb hB hB.size
      replace ba0 := Box.step hb ba0
      replace ba1 := Box.step hb ba1
      replace qh0a := RS.step hb qh0a
      replace qh0b := RS.step hb qh0b
      replace qh1a := RS.step hb qh1a
      replace qh1b := RS.step hb qh1b
      clear hb
      rcases hsl with rfl | ⟨z1, rfl, hz10, hz11, hz12, hz13⟩
      · go_wp2
        go_ret
        exact ⟨rfl, hB⟩
      have by0lc : y0lc.length ≤ 1048576 := by omega
      have by0ld : y0ld.length ≤ 1048576 := by omega
      have t1 : ¬ z1 < 0 := by omega
      go_upto_region 5 with fail
      go_cut [5] (fun sl wx => (sl = .int .i64 (-1) ∨ ∃ z : Int, sl = .int .i64 z ∧ 0 ≤ z ∧ z ≤ z1 ∧ (y1lc.length : Int) ≤ z1 ∧ (y1ld.length : Int) ≤ z1) ∧ Below u2.heap.size u2 wx)
      case first =>
        obtain ⟨zb2a, cb2a0, cb2a1, cb2a2, cb2a3⟩ := ba1.open4
        go_wp2_with fail
        refine (L_szFilm _ (by first | omega | assumption) (by first | omega | assumption) (by unfold maxLen; first | omega | assumption) (by unfold maxLen; first | omega | assumption)).mono ?_
        rintro e v2a ⟨rfl, hbv2a⟩
        have hzv2a := hbv2a.size; (try simp at hzv2a)
        have cv2aa := fun o => hbv2a.cell (p := ⟨w.heap.size + 1, o, none⟩) (by first | omega | (simp <;> omega))
        have zv2aa : w.heap.size + 1 < v2a.heap.size := (by first | omega | (simp <;> omega))
        have ev2aa : ¬ w.heap.size + 1 = v2a.heap.size := (by omega)
        have gv2aa : ¬ v2a.heap.size = w.heap.size + 1 := (by omega)
        go_wp2_with fail
        go_meet
        rcases szF2_or (z1) y1lc.length y1ld.length with hq | ⟨hq0, hq1, hq2, hq3⟩
        · exact ⟨.inl (by rw [hq]), (by repeat (first | (with_reducible exact Below.refl _ _) | (with_reducible assumption) | ((with_reducible refine Below.alloc ?_ ?_ _); rotate_left; (first | omega | (simp <;> omega))) | ((with_reducible refine Below.setCell ?_ ?_ _); rotate_left; (first | omega | (simp <;> omega))) | (with_reducible refine below_drewN ?_ _) | (with_reducible refine Below.drew ?_) | ((with_reducible refine Below.step (by assumption) ?_ ?_); rotate_left; (first | omega | (simp <;> omega)))))⟩
        · exact ⟨.inr ⟨_, rfl, hq0, hq1, hq2, hq3⟩, (by repeat (first | (with_reducible exact Below.refl _ _) | (with_reducible assumption) | ((with_reducible refine Below.alloc ?_ ?_ _); rotate_left; (first | omega | (simp <;> omega))) | ((with_reducible refine Below.setCell ?_ ?_ _); rotate_left; (first | omega | (simp <;> omega))) | (with_reducible refine below_drewN ?_ _) | (with_reducible refine Below.drew ?_) | ((with_reducible refine Below.step (by assumption) ?_ ?_); rotate_left; (first | omega | (simp <;> omega)))))⟩
      case rest =>
        obtain ⟨u3, rfl⟩ : ∃ u3, u3 = wc := ⟨_, rfl⟩
        obtain ⟨hsl, hb⟩ := hcut
        replace hB := Below.step hb hB hB.size
        replace ba0 := Box.step hb ba0
        replace ba1 := Box.step hb ba1
        replace qh0a := RS.step hb qh0a
        replace qh0b := RS.step hb qh0b
        replace qh1a := RS.step hb qh1a
        replace qh1b := RS.step hb qh1b
        clear hb
        rcases hsl with rfl | ⟨z2, rfl, hz20, hz21, hz22, hz23⟩
        · go_wp2
          go_ret
          exact ⟨rfl, hB⟩
        have by1lc : y1lc.length ≤ 1048576 := by omega
        have by1ld : y1ld.length ≤ 1048576 := by omega
        have t2 : ¬ z2 < 0 := by omega
        go_upto_region 8 with fail
        go_cut [6, 7] (fun s6 s7 wx => ∃ A36a c36a A36b c36b B36, s6 = .pointer (some ⟨B36, 0, none⟩) ∧ Box wx B36 [.int .i64 r0a, .int .i64 r0b, (.slice A36a r0lc.length c36a), (.slice A36b r0ld.length c36b)] ∧ u3.heap.size ≤ B36 ∧ OwnS wx 1 A36a r0lc.length c36a 3 (ints r0lc) ∧ (∀ x, x ∈ gOf A36a → u3.heap.size ≤ x) ∧ (∀ x, x ∈ gOf A36a → x ≠ B36) ∧ OwnS wx 1 A36b r0ld.length c36b 4 (bools r0ld) ∧ (∀ x, x ∈ gOf A36b → u3.heap.size ≤ x) ∧ (∀ x, x ∈ gOf A36b → x ≠ B36) ∧ (∀ x, x ∈ gOf A36a → x ∉ gOf A36b) ∧ s7 = (.bool r1) ∧ Below u3.heap.size u3 wx)
        case first =>
          obtain ⟨zb3a, cb3a0, cb3a1, cb3a2, cb3a3⟩ := ba0.open4
          obtain ⟨zb3b, cb3b0, cb3b1, cb3b2, cb3b3⟩ := ba1.open4
          go_region_held3 (fun w' => w'.cell? ⟨w.heap.size, 0, none⟩ = some (.int .i64 y0a) ∧ w'.cell? ⟨w.heap.size, 1, none⟩ = some (.int .i64 y0b) ∧ w'.cell? ⟨w.heap.size, 2, none⟩ = some ((.slice A0a y0lc.length p0a)) ∧ w'.cell? ⟨w.heap.size, 3, none⟩ = some ((.slice A0b y0ld.length p0b)) ∧ w'.cell? ⟨w.heap.size + 1, 0, none⟩ = some (.int .i64 y1a) ∧ w'.cell? ⟨w.heap.size + 1, 1, none⟩ = some (.int .i64 y1b) ∧ w'.cell? ⟨w.heap.size + 1, 2, none⟩ = some ((.slice A1a y1lc.length p1a)) ∧ w'.cell? ⟨w.heap.size + 1, 3, none⟩ = some ((.slice A1b y1ld.length p1b)))
            (first | ((try dsimp only); refine ⟨?_, ?_, ?_, ?_, ?_, ?_, ?_, ?_⟩ <;> (go_simp; done)) | go_keep)
            (first | (go_at_call 59; (with_reducible refine (L_toFilmM (x0 := y0a) (x1 := y0b) (l0 := y0lc) (l1 := y0ld) _ by0lc by0ld (RS.step (by repeat (first | (with_reducible exact Below.refl _ _) | (with_reducible assumption) | ((with_reducible refine Below.alloc ?_ ?_ _); rotate_left; (first | omega | (simp <;> omega))) | ((with_reducible refine Below.setCell ?_ ?_ _); rotate_left; (first | omega | (simp <;> omega))) | (with_reducible refine below_drewN ?_ _) | (with_reducible refine Below.drew ?_) | ((with_reducible refine Below.step (by assumption) ?_ ?_); rotate_left; (first | omega | (simp <;> omega))))) qh0a) (RS.step (by repeat (first | (with_reducible exact Below.refl _ _) | (with_reducible assumption) | ((with_reducible refine Below.alloc ?_ ?_ _); rotate_left; (first | omega | (simp <;> omega))) | ((with_reducible refine Below.setCell ?_ ?_ _); rotate_left; (first | omega | (simp <;> omega))) | (with_reducible refine below_drewN ?_ _) | (with_reducible refine Below.drew ?_) | ((with_reducible refine Below.step (by assumption) ?_ ?_); rotate_left; (first | omega | (simp <;> omega))))) qh0b)).mono ?_); rintro e v3a ⟨Tv3aa, kv3aa, Tv3ab, kv3ab, rfl, ov3aa, ov3ab, gev3aa, gev3ab, div3a, hbv3a⟩; have hzv3a := hbv3a.size; (try simp at hzv3a); have cv3aa := fun o => hbv3a.cell (p := ⟨w.heap.size, o, none⟩) (by first | omega | (simp <;> omega)); have zv3aa : w.heap.size < v3a.heap.size := (by first | omega | (simp <;> omega)); have ev3aa : ¬ w.heap.size = v3a.heap.size := (by omega); have gv3aa : ¬ v3a.heap.size = w.heap.size := (by omega); have cv3ab := fun o => hbv3a.cell (p := ⟨w.heap.size + 1, o, none⟩) (by first | omega | (simp <;> omega)); have zv3ab : w.heap.size + 1 < v3a.heap.size := (by first | omega | (simp <;> omega)); have ev3ab : ¬ w.heap.size + 1 = v3a.heap.size := (by omega); have gv3ab : ¬ v3a.heap.size = w.heap.size + 1 := (by omega); (try (refine with_box hbv3a (u3.heap.size) ?_ ?_; (first | omega | (simp <;> omega)); intro ncv3a0 nfv3a0 nzv3a0))) | (go_at_call 59; (with_reducible refine (L_toFilmM (x0 := y1a) (x1 := y1b) (l0 := y1lc) (l1 := y1ld) _ by1lc by1ld (RS.step (by repeat (first | (with_reducible exact Below.refl _ _) | (with_reducible assumption) | ((with_reducible refine Below.alloc ?_ ?_ _); rotate_left; (first | omega | (simp <;> omega))) | ((with_reducible refine Below.setCell ?_ ?_ _); rotate_left; (first | omega | (simp <;> omega))) | (with_reducible refine below_drewN ?_ _) | (with_reducible refine Below.drew ?_) | ((with_reducible refine Below.step (by assumption) ?_ ?_); rotate_left; (first | omega | (simp <;> omega))))) qh1a) (RS.step (by repeat (first | (with_reducible exact Below.refl _ _) | (with_reducible assumption) | ((with_reducible refine Below.alloc ?_ ?_ _); rotate_left; (first | omega | (simp <;> omega))) | ((with_reducible refine Below.setCell ?_ ?_ _); rotate_left; (first | omega | (simp <;> omega))) | (with_reducible refine below_drewN ?_ _) | (with_reducible refine Below.drew ?_) | ((with_reducible refine Below.step (by assumption) ?_ ?_); rotate_left; (first | omega | (simp <;> omega))))) qh1b)).mono ?_); rintro e v3b ⟨Tv3ba, kv3ba, Tv3bb, kv3bb, rfl, ov3ba, ov3bb, gev3ba, gev3bb, div3b, hbv3b⟩; have hzv3b := hbv3b.size; (try simp at hzv3b); have cv3ba := fun o => hbv3b.cell (p := ⟨w.heap.size, o, none⟩) (by first | omega | (simp <;> omega)); have zv3ba : w.heap.size < v3b.heap.size := (by first | omega | (simp <;> omega)); have ev3ba : ¬ w.heap.size = v3b.heap.size := (by omega); have gv3ba : ¬ v3b.heap.size = w.heap.size := (by omega); have cv3bb := fun o => hbv3b.cell (p := ⟨w.heap.size + 1, o, none⟩) (by first | omega | (simp <;> omega)); have zv3bb : w.heap.size + 1 < v3b.heap.size := (by first | omega | (simp <;> omega)); have ev3bb : ¬ w.heap.size + 1 = v3b.heap.size := (by omega); have gv3bb : ¬ v3b.heap.size = w.heap.size + 1 := (by omega); (try (refine with_box hbv3b (u3.heap.size) ?_ ?_; (first | omega | (simp <;> omega)); intro ncv3b0 nfv3b0 nzv3b0)); (try (refine with_box hbv3b (v3a.heap.size) ?_ ?_; (first | omega | (simp <;> omega)); intro ncv3b1 nfv3b1 nzv3b1))) | (go_at_call 58; (with_reducible refine (HS.out _ _ _ _ _ _ _ _ _ (RS.step (by repeat (first | (with_reducible exact Below.refl _ _) | (with_reducible assumption) | ((with_reducible refine Below.alloc ?_ ?_ _); rotate_left; (first | omega | (simp <;> omega))) | ((with_reducible refine Below.setCell ?_ ?_ _); rotate_left; (first | omega | (simp <;> omega))) | (with_reducible refine below_drewN ?_ _) | (with_reducible refine Below.drew ?_) | ((with_reducible refine Below.step (by assumption) ?_ ?_); rotate_left; (first | omega | (simp <;> omega))))) (OwnS.rs ov3aa)) (RS.step (by repeat (first | (with_reducible exact Below.refl _ _) | (with_reducible assumption) | ((with_reducible refine Below.alloc ?_ ?_ _); rotate_left; (first | omega | (simp <;> omega))) | ((with_reducible refine Below.setCell ?_ ?_ _); rotate_left; (first | omega | (simp <;> omega))) | (with_reducible refine below_drewN ?_ _) | (with_reducible refine Below.drew ?_) | ((with_reducible refine Below.step (by assumption) ?_ ?_); rotate_left; (first | omega | (simp <;> omega))))) (OwnS.rs ov3ab)) (RS.step (by repeat (first | (with_reducible exact Below.refl _ _) | (with_reducible assumption) | ((with_reducible refine Below.alloc ?_ ?_ _); rotate_left; (first | omega | (simp <;> omega))) | ((with_reducible refine Below.setCell ?_ ?_ _); rotate_left; (first | omega | (simp <;> omega))) | (with_reducible refine below_drewN ?_ _) | (with_reducible refine Below.drew ?_) | ((with_reducible refine Below.step (by assumption) ?_ ?_); rotate_left; (first | omega | (simp <;> omega))))) (OwnS.rs ov3ba)) (RS.step (by repeat (first | (with_reducible exact Below.refl _ _) | (with_reducible assumption) | ((with_reducible refine Below.alloc ?_ ?_ _); rotate_left; (first | omega | (simp <;> omega))) | ((with_reducible refine Below.setCell ?_ ?_ _); rotate_left; (first | omega | (simp <;> omega))) | (with_reducible refine below_drewN ?_ _) | (with_reducible refine Below.drew ?_) | ((with_reducible refine Below.step (by assumption) ?_ ?_); rotate_left; (first | omega | (simp <;> omega))))) (OwnS.rs ov3bb))).mono ?_); rintro e v3c ⟨Tv3ca, kv3ca, Tv3cb, kv3cb, rfl, ov3ca, ov3cb, gev3ca, gev3cb, div3c, hbv3c⟩; have hzv3c := hbv3c.size; (try simp at hzv3c); have cv3ca := fun o => hbv3c.cell (p := ⟨w.heap.size, o, none⟩) (by first | omega | (simp <;> omega)); have zv3ca : w.heap.size < v3c.heap.size := (by first | omega | (simp <;> omega)); have ev3ca : ¬ w.heap.size = v3c.heap.size := (by omega); have gv3ca : ¬ v3c.heap.size = w.heap.size := (by omega); have cv3cb := fun o => hbv3c.cell (p := ⟨w.heap.size + 1, o, none⟩) (by first | omega | (simp <;> omega)); have zv3cb : w.heap.size + 1 < v3c.heap.size := (by first | omega | (simp <;> omega)); have ev3cb : ¬ w.heap.size + 1 = v3c.heap.size := (by omega); have gv3cb : ¬ v3c.heap.size = w.heap.size + 1 := (by omega); (try (refine with_box hbv3c (u3.heap.size) ?_ ?_; (first | omega | (simp <;> omega)); intro ncv3c0 nfv3c0 nzv3c0)); (try (refine with_box hbv3c (v3a.heap.size) ?_ ?_; (first | omega | (simp <;> omega)); intro ncv3c1 nfv3c1 nzv3c1)); (try (refine with_box hbv3c (v3b.heap.size) ?_ ?_; (first | omega | (simp <;> omega)); intro ncv3c2 nfv3c2 nzv3c2))))
          all_goals
            go_wp2_with fail
            go_meet
            exact ⟨Tv3ca, kv3ca, Tv3cb, kv3cb, _, rfl, Box.mk4 (by first | omega | (simp <;> omega)) (by go_simp) (by go_simp) (by go_simp) (by go_simp), (by first | omega | (simp <;> omega)), (by repeat (first | (with_reducible exact ov3ca) | ((with_reducible refine OwnS.far ?_ (fun x hx => ?_) _); rotate_left; (have h1 := gev3ca x hx; have h2 := OwnS.lt ov3ca x hx; (try simp at h1); first | omega | (simp <;> omega))) | (with_reducible refine OwnS.alloc ?_ _) | (with_reducible refine OwnS.drewN ?_ _) | (with_reducible refine OwnS.drew ?_) | (with_reducible refine OwnS.step (by assumption) ?_))), (fun x hx => by have h1 := gev3ca x hx; (try simp at h1); first | omega | (simp <;> omega)), (fun x hx => by have h1 := gev3ca x hx; have h2 := OwnS.lt ov3ca x hx; (try simp at h1); first | omega | (simp <;> omega)), (by repeat (first | (with_reducible exact ov3cb) | ((with_reducible refine OwnS.far ?_ (fun x hx => ?_) _); rotate_left; (have h1 := gev3cb x hx; have h2 := OwnS.lt ov3cb x hx; (try simp at h1); first | omega | (simp <;> omega))) | (with_reducible refine OwnS.alloc ?_ _) | (with_reducible refine OwnS.drewN ?_ _) | (with_reducible refine OwnS.drew ?_) | (with_reducible refine OwnS.step (by assumption) ?_))), (fun x hx => by have h1 := gev3cb x hx; (try simp at h1); first | omega | (simp <;> omega)), (fun x hx => by have h1 := gev3cb x hx; have h2 := OwnS.lt ov3cb x hx; (try simp at h1); first | omega | (simp <;> omega)), div3c, rfl, (by repeat (first | (with_reducible exact Below.refl _ _) | (with_reducible assumption) | ((with_reducible refine Below.alloc ?_ ?_ _); rotate_left; (first | omega | (simp <;> omega))) | ((with_reducible refine Below.setCell ?_ ?_ _); rotate_left; (first | omega | (simp <;> omega))) | (with_reducible refine below_drewN ?_ _) | (with_reducible refine Below.drew ?_) | ((with_reducible refine Below.step (by assumption) ?_ ?_); rotate_left; (first | omega | (simp <;> omega)))))⟩
        case rest =>
          obtain ⟨u4, rfl⟩ : ∃ u4, u4 = wc := ⟨_, rfl⟩
          obtain ⟨A36a, c36a, A36b, c36b, B36, rfl, bx36, bg36, o36a, ge36a, ne360, o36b, ge36b, ne361, di36, rfl, hb⟩ := hcut
          replace hB := Below.step hb hB hB.size
          replace ba0 := Box.step hb ba0
          replace ba1 := Box.step hb ba1
          replace qh0a := RS.step hb qh0a
          replace qh0b := RS.step hb qh0b
          replace qh1a := RS.step hb qh1a
          replace qh1b := RS.step hb qh1b
          replace o36a := OwnS.rs o36a
          replace o36b := OwnS.rs o36b
          have hS := Below.refl u4.heap.size u4
          have hBS := hB.size
          go_upto_region 9 with fail
          go_cut [8] (fun s8 wx => ∃ A48a c48a A48b c48b B48, s8 = .pointer (some ⟨B48, 0, none⟩) ∧ Box wx B48 [.int .i64 y0a, .int .i64 y0b, (.slice A48a y0lc.length c48a), (.slice A48b y0ld.length c48b)] ∧ u4.heap.size ≤ B48 ∧ OwnS wx 1 A48a y0lc.length c48a 3 (ints y0lc) ∧ (∀ x, x ∈ gOf A48a → u4.heap.size ≤ x) ∧ (∀ x, x ∈ gOf A48a → x ≠ B48) ∧ OwnS wx 1 A48b y0ld.length c48b 4 (bools y0ld) ∧ (∀ x, x ∈ gOf A48b → u4.heap.size ≤ x) ∧ (∀ x, x ∈ gOf A48b → x ≠ B48) ∧ (∀ x, x ∈ gOf A48a → x ∉ gOf A48b) ∧ Below u4.heap.size u4 wx)
          case first =>
            obtain ⟨zb4a, cb4a0, cb4a1, cb4a2, cb4a3⟩ := (Box.step hS ba0).open4
            go_wp2_with fail
            refine (L_toFilmM (x0 := y0a) (x1 := y0b) (l0 := y0lc) (l1 := y0ld) _ by0lc by0ld (RS.step (by repeat (first | (with_reducible exact Below.refl _ _) | (with_reducible assumption) | ((with_reducible refine Below.alloc ?_ ?_ _); rotate_left; (first | omega | (simp <;> omega))) | ((with_reducible refine Below.setCell ?_ ?_ _); rotate_left; (first | omega | (simp <;> omega))) | (with_reducible refine below_drewN ?_ _) | (with_reducible refine Below.drew ?_) | ((with_reducible refine Below.step (by assumption) ?_ ?_); rotate_left; (first | omega | (simp <;> omega))))) (RS.step hS qh0a)) (RS.step (by repeat (first | (with_reducible exact Below.refl _ _) | (with_reducible assumption) | ((with_reducible refine Below.alloc ?_ ?_ _); rotate_left; (first | omega | (simp <;> omega))) | ((with_reducible refine Below.setCell ?_ ?_ _); rotate_left; (first | omega | (simp <;> omega))) | (with_reducible refine below_drewN ?_ _) | (with_reducible refine Below.drew ?_) | ((with_reducible refine Below.step (by assumption) ?_ ?_); rotate_left; (first | omega | (simp <;> omega))))) (RS.step hS qh0b))).mono ?_
            rintro e v4a ⟨Tv4aa, kv4aa, Tv4ab, kv4ab, rfl, ov4aa, ov4ab, gev4aa, gev4ab, div4a, hbv4a⟩
            have hzv4a := hbv4a.size; (try simp at hzv4a)
            have cv4aa := fun o => hbv4a.cell (p := ⟨w.heap.size, o, none⟩) (by first | omega | (simp <;> omega))
            have zv4aa : w.heap.size < v4a.heap.size := (by first | omega | (simp <;> omega))
            have ev4aa : ¬ w.heap.size = v4a.heap.size := (by omega)
            have gv4aa : ¬ v4a.heap.size = w.heap.size := (by omega)
            go_wp2_with fail
            go_meet
            exact ⟨Tv4aa, kv4aa, Tv4ab, kv4ab, _, rfl, Box.mk4 (by first | omega | (simp <;> omega)) (by go_simp) (by go_simp) (by go_simp) (by go_simp), (by first | omega | (simp <;> omega)), (by repeat (first | (with_reducible exact ov4aa) | ((with_reducible refine OwnS.far ?_ (fun x hx => ?_) _); rotate_left; (have h1 := gev4aa x hx; have h2 := OwnS.lt ov4aa x hx; (try simp at h1); first | omega | (simp <;> omega))) | (with_reducible refine OwnS.alloc ?_ _) | (with_reducible refine OwnS.drewN ?_ _) | (with_reducible refine OwnS.drew ?_) | (with_reducible refine OwnS.step (by assumption) ?_))), (fun x hx => by have h1 := gev4aa x hx; (try simp at h1); first | omega | (simp <;> omega)), (fun x hx => by have h1 := gev4aa x hx; have h2 := OwnS.lt ov4aa x hx; (try simp at h1); first | omega | (simp <;> omega)), (by repeat (first | (with_reducible exact ov4ab) | ((with_reducible refine OwnS.far ?_ (fun x hx => ?_) _); rotate_left; (have h1 := gev4ab x hx; have h2 := OwnS.lt ov4ab x hx; (try simp at h1); first | omega | (simp <;> omega))) | (with_reducible refine OwnS.alloc ?_ _) | (with_reducible refine OwnS.drewN ?_ _) | (with_reducible refine OwnS.drew ?_) | (with_reducible refine OwnS.step (by assumption) ?_))), (fun x hx => by have h1 := gev4ab x hx; (try simp at h1); first | omega | (simp <;> omega)), (fun x hx => by have h1 := gev4ab x hx; have h2 := OwnS.lt ov4ab x hx; (try simp at h1); first | omega | (simp <;> omega)), div4a, (by repeat (first | (with_reducible exact Below.refl _ _) | (with_reducible assumption) | ((with_reducible refine Below.alloc ?_ ?_ _); rotate_left; (first | omega | (simp <;> omega))) | ((with_reducible refine Below.setCell ?_ ?_ _); rotate_left; (first | omega | (simp <;> omega))) | (with_reducible refine below_drewN ?_ _) | (with_reducible refine Below.drew ?_) | ((with_reducible refine Below.step (by assumption) ?_ ?_); rotate_left; (first | omega | (simp <;> omega)))))⟩
          case rest =>
            obtain ⟨u5, rfl⟩ : ∃ u5, u5 = wc := ⟨_, rfl⟩
            obtain ⟨A48a, c48a, A48b, c48b, B48, rfl, bx48, bg48, o48a, ge48a, ne480, o48b, ge48b, ne481, di48, hb⟩ := hcut
            replace hB := Below.step hb hB hB.size
            have hSs := hS.size
            replace hS := Below.step hb hS hS.size
            clear hb
            go_upto_region 10 with fail
            go_cut [9] (fun s9 wx => ∃ A59a c59a A59b c59b B59, s9 = .pointer (some ⟨B59, 0, none⟩) ∧ Box wx B59 [.int .i64 y1a, .int .i64 y1b, (.slice A59a y1lc.length c59a), (.slice A59b y1ld.length c59b)] ∧ u5.heap.size ≤ B59 ∧ OwnS wx 1 A59a y1lc.length c59a 3 (ints y1lc) ∧ (∀ x, x ∈ gOf A59a → u5.heap.size ≤ x) ∧ (∀ x, x ∈ gOf A59a → x ≠ B59) ∧ OwnS wx 1 A59b y1ld.length c59b 4 (bools y1ld) ∧ (∀ x, x ∈ gOf A59b → u5.heap.size ≤ x) ∧ (∀ x, x ∈ gOf A59b → x ≠ B59) ∧ (∀ x, x ∈ gOf A59a → x ∉ gOf A59b) ∧ Below u5.heap.size u5 wx)
            case first =>
              obtain ⟨zb5a, cb5a0, cb5a1, cb5a2, cb5a3⟩ := (Box.step hS ba1).open4
              go_wp2_with fail
              refine (L_toFilmM (x0 := y1a) (x1 := y1b) (l0 := y1lc) (l1 := y1ld) _ by1lc by1ld (RS.step (by repeat (first | (with_reducible exact Below.refl _ _) | (with_reducible assumption) | ((with_reducible refine Below.alloc ?_ ?_ _); rotate_left; (first | omega | (simp <;> omega))) | ((with_reducible refine Below.setCell ?_ ?_ _); rotate_left; (first | omega | (simp <;> omega))) | (with_reducible refine below_drewN ?_ _) | (with_reducible refine Below.drew ?_) | ((with_reducible refine Below.step (by assumption) ?_ ?_); rotate_left; (first | omega | (simp <;> omega))))) (RS.step hS qh1a)) (RS.step (by repeat (first | (with_reducible exact Below.refl _ _) | (with_reducible assumption) | ((with_reducible refine Below.alloc ?_ ?_ _); rotate_left; (first | omega | (simp <;> omega))) | ((with_reducible refine Below.setCell ?_ ?_ _); rotate_left; (first | omega | (simp <;> omega))) | (with_reducible refine below_drewN ?_ _) | (with_reducible refine Below.drew ?_) | ((with_reducible refine Below.step (by assumption) ?_ ?_); rotate_left; (first | omega | (simp <;> omega))))) (RS.step hS qh1b))).mono ?_
              rintro e v5a ⟨Tv5aa, kv5aa, Tv5ab, kv5ab, rfl, ov5aa, ov5ab, gev5aa, gev5ab, div5a, hbv5a⟩
              have hzv5a := hbv5a.size; (try simp at hzv5a)
              have cv5aa := fun o => hbv5a.cell (p := ⟨w.heap.size + 1, o, none⟩) (by first | omega | (simp <;> omega))
              have zv5aa : w.heap.size + 1 < v5a.heap.size := (by first | omega | (simp <;> omega))
              have ev5aa : ¬ w.heap.size + 1 = v5a.heap.size := (by omega)
              have gv5aa : ¬ v5a.heap.size = w.heap.size + 1 := (by omega)
              go_wp2_with fail
              go_meet
              exact ⟨Tv5aa, kv5aa, Tv5ab, kv5ab, _, rfl, Box.mk4 (by first | omega | (simp <;> omega)) (by go_simp) (by go_simp) (by go_simp) (by go_simp), (by first | omega | (simp <;> omega)), (by repeat (first | (with_reducible exact ov5aa) | ((with_reducible refine OwnS.far ?_ (fun x hx => ?_) _); rotate_left; (have h1 := gev5aa x hx; have h2 := OwnS.lt ov5aa x hx; (try simp at h1); first | omega | (simp <;> omega))) | (with_reducible refine OwnS.alloc ?_ _) | (with_reducible refine OwnS.drewN ?_ _) | (with_reducible refine OwnS.drew ?_) | (with_reducible refine OwnS.step (by assumption) ?_))), (fun x hx => by have h1 := gev5aa x hx; (try simp at h1); first | omega | (simp <;> omega)), (fun x hx => by have h1 := gev5aa x hx; have h2 := OwnS.lt ov5aa x hx; (try simp at h1); first | omega | (simp <;> omega)), (by repeat (first | (with_reducible exact ov5ab) | ((with_reducible refine OwnS.far ?_ (fun x hx => ?_) _); rotate_left; (have h1 := gev5ab x hx; have h2 := OwnS.lt ov5ab x hx; (try simp at h1); first | omega | (simp <;> omega))) | (with_reducible refine OwnS.alloc ?_ _) | (with_reducible refine OwnS.drewN ?_ _) | (with_reducible refine OwnS.drew ?_) | (with_reducible refine OwnS.step (by assumption) ?_))), (fun x hx => by have h1 := gev5ab x hx; (try simp at h1); first | omega | (simp <;> omega)), (fun x hx => by have h1 := gev5ab x hx; have h2 := OwnS.lt ov5ab x hx; (try simp at h1); first | omega | (simp <;> omega)), div5a, (by repeat (first | (with_reducible exact Below.refl _ _) | (with_reducible assumption) | ((with_reducible refine Below.alloc ?_ ?_ _); rotate_left; (first | omega | (simp <;> omega))) | ((with_reducible refine Below.setCell ?_ ?_ _); rotate_left; (first | omega | (simp <;> omega))) | (with_reducible refine below_drewN ?_ _) | (with_reducible refine Below.drew ?_) | ((with_reducible refine Below.step (by assumption) ?_ ?_); rotate_left; (first | omega | (simp <;> omega)))))⟩
            case rest =>
              obtain ⟨u6, rfl⟩ : ∃ u6, u6 = wc := ⟨_, rfl⟩
              obtain ⟨A59a, c59a, A59b, c59b, B59, rfl, bx59, bg59, o59a, ge59a, ne590, o59b, ge59b, ne591, di59, hb⟩ := hcut
              have lto48a5 := OwnS.lt o48a
              have lto48b5 := OwnS.lt o48b
              have lbbx485 := bx48.lt
              replace hB := Below.step hb hB hB.size
              have hSs := hS.size
              replace hS := Below.step hb hS hS.size
              replace bx48 := Box.step hb bx48
              replace o48a := OwnS.step hb o48a
              replace o48b := OwnS.step hb o48b
              clear hb
              go_upto_region 11 with fail
              go_cut [10, 11] (fun s10 s11 wx => ∃ A610a c610a A610b c610b B610, s10 = .pointer (some ⟨B610, 0, none⟩) ∧ Box wx B610 [.int .i64 r0a, .int .i64 r0b, (.slice A610a r0lc.length c610a), (.slice A610b r0ld.length c610b)] ∧ u6.heap.size ≤ B610 ∧ OwnS wx 1 A610a r0lc.length c610a 3 (ints r0lc) ∧ (∀ x, x ∈ gOf A610a → u6.heap.size ≤ x) ∧ (∀ x, x ∈ gOf A610a → x ≠ B610) ∧ OwnS wx 1 A610b r0ld.length c610b 4 (bools r0ld) ∧ (∀ x, x ∈ gOf A610b → u6.heap.size ≤ x) ∧ (∀ x, x ∈ gOf A610b → x ≠ B610) ∧ (∀ x, x ∈ gOf A610a → x ∉ gOf A610b) ∧ s11 = (.bool r1) ∧ Below u6.heap.size u6 wx)
              case first =>
                obtain ⟨zb6a, cb6a0, cb6a1, cb6a2, cb6a3⟩ := bx48.open4
                obtain ⟨zb6b, cb6b0, cb6b1, cb6b2, cb6b3⟩ := bx59.open4
                go_wp2_with fail
                refine (HI.out _ _ _ _ _ _ _ _ _ (RS.step (by repeat (first | (with_reducible exact Below.refl _ _) | (with_reducible assumption) | ((with_reducible refine Below.alloc ?_ ?_ _); rotate_left; (first | omega | (simp <;> omega))) | ((with_reducible refine Below.setCell ?_ ?_ _); rotate_left; (first | omega | (simp <;> omega))) | (with_reducible refine below_drewN ?_ _) | (with_reducible refine Below.drew ?_) | ((with_reducible refine Below.step (by assumption) ?_ ?_); rotate_left; (first | omega | (simp <;> omega))))) (OwnS.rs o48a)) (RS.step (by repeat (first | (with_reducible exact Below.refl _ _) | (with_reducible assumption) | ((with_reducible refine Below.alloc ?_ ?_ _); rotate_left; (first | omega | (simp <;> omega))) | ((with_reducible refine Below.setCell ?_ ?_ _); rotate_left; (first | omega | (simp <;> omega))) | (with_reducible refine below_drewN ?_ _) | (with_reducible refine Below.drew ?_) | ((with_reducible refine Below.step (by assumption) ?_ ?_); rotate_left; (first | omega | (simp <;> omega))))) (OwnS.rs o48b)) (RS.step (by repeat (first | (with_reducible exact Below.refl _ _) | (with_reducible assumption) | ((with_reducible refine Below.alloc ?_ ?_ _); rotate_left; (first | omega | (simp <;> omega))) | ((with_reducible refine Below.setCell ?_ ?_ _); rotate_left; (first | omega | (simp <;> omega))) | (with_reducible refine below_drewN ?_ _) | (with_reducible refine Below.drew ?_) | ((with_reducible refine Below.step (by assumption) ?_ ?_); rotate_left; (first | omega | (simp <;> omega))))) (OwnS.rs o59a)) (RS.step (by repeat (first | (with_reducible exact Below.refl _ _) | (with_reducible assumption) | ((with_reducible refine Below.alloc ?_ ?_ _); rotate_left; (first | omega | (simp <;> omega))) | ((with_reducible refine Below.setCell ?_ ?_ _); rotate_left; (first | omega | (simp <;> omega))) | (with_reducible refine below_drewN ?_ _) | (with_reducible refine Below.drew ?_) | ((with_reducible refine Below.step (by assumption) ?_ ?_); rotate_left; (first | omega | (simp <;> omega))))) (OwnS.rs o59b))).mono ?_
                rintro e v6a ⟨Tv6aa, kv6aa, Tv6ab, kv6ab, rfl, ov6aa, ov6ab, gev6aa, gev6ab, div6a, hbv6a⟩
                have hzv6a := hbv6a.size; (try simp at hzv6a)
                have cv6aa := fun o => hbv6a.cell (p := ⟨B48, o, none⟩) (by first | omega | (simp <;> omega))
                have zv6aa : B48 < v6a.heap.size := (by first | omega | (simp <;> omega))
                have ev6aa : ¬ B48 = v6a.heap.size := (by omega)
                have gv6aa : ¬ v6a.heap.size = B48 := (by omega)
                have cv6ab := fun o => hbv6a.cell (p := ⟨B59, o, none⟩) (by first | omega | (simp <;> omega))
                have zv6ab : B59 < v6a.heap.size := (by first | omega | (simp <;> omega))
                have ev6ab : ¬ B59 = v6a.heap.size := (by omega)
                have gv6ab : ¬ v6a.heap.size = B59 := (by omega)
                go_wp2_with fail
                go_meet
                exact ⟨Tv6aa, kv6aa, Tv6ab, kv6ab, _, rfl, Box.mk4 (by first | omega | (simp <;> omega)) (by go_simp) (by go_simp) (by go_simp) (by go_simp), (by first | omega | (simp <;> omega)), (by repeat (first | (with_reducible exact ov6aa) | ((with_reducible refine OwnS.far ?_ (fun x hx => ?_) _); rotate_left; (have h1 := gev6aa x hx; have h2 := OwnS.lt ov6aa x hx; (try simp at h1); first | omega | (simp <;> omega))) | (with_reducible refine OwnS.alloc ?_ _) | (with_reducible refine OwnS.drewN ?_ _) | (with_reducible refine OwnS.drew ?_) | (with_reducible refine OwnS.step (by assumption) ?_))), (fun x hx => by have h1 := gev6aa x hx; (try simp at h1); first | omega | (simp <;> omega)), (fun x hx => by have h1 := gev6aa x hx; have h2 := OwnS.lt ov6aa x hx; (try simp at h1); first | omega | (simp <;> omega)), (by repeat (first | (with_reducible exact ov6ab) | ((with_reducible refine OwnS.far ?_ (fun x hx => ?_) _); rotate_left; (have h1 := gev6ab x hx; have h2 := OwnS.lt ov6ab x hx; (try simp at h1); first | omega | (simp <;> omega))) | (with_reducible refine OwnS.alloc ?_ _) | (with_reducible refine OwnS.drewN ?_ _) | (with_reducible refine OwnS.drew ?_) | (with_reducible refine OwnS.step (by assumption) ?_))), (fun x hx => by have h1 := gev6ab x hx; (try simp at h1); first | omega | (simp <;> omega)), (fun x hx => by have h1 := gev6ab x hx; have h2 := OwnS.lt ov6ab x hx; (try simp at h1); first | omega | (simp <;> omega)), div6a, rfl, (by repeat (first | (with_reducible exact Below.refl _ _) | (with_reducible assumption) | ((with_reducible refine Below.alloc ?_ ?_ _); rotate_left; (first | omega | (simp <;> omega))) | ((with_reducible refine Below.setCell ?_ ?_ _); rotate_left; (first | omega | (simp <;> omega))) | (with_reducible refine below_drewN ?_ _) | (with_reducible refine Below.drew ?_) | ((with_reducible refine Below.step (by assumption) ?_ ?_); rotate_left; (first | omega | (simp <;> omega)))))⟩
              case rest =>
                obtain ⟨u7, rfl⟩ : ∃ u7, u7 = wc := ⟨_, rfl⟩
                obtain ⟨A610a, c610a, A610b, c610b, B610, rfl, bx610, bg610, o610a, ge610a, ne6100, o610b, ge610b, ne6101, di610, rfl, hb⟩ := hcut
                have lto48a6 := OwnS.lt o48a
                have lto48b6 := OwnS.lt o48b
                have lbbx486 := bx48.lt
                have lto59a6 := OwnS.lt o59a
                have lto59b6 := OwnS.lt o59b
                have lbbx596 := bx59.lt
                replace hB := Below.step hb hB hB.size
                have hSs := hS.size
                replace hS := Below.step hb hS hS.size
                replace bx48 := Box.step hb bx48
                replace o48a := OwnS.step hb o48a
                replace o48b := OwnS.step hb o48b
                replace bx59 := Box.step hb bx59
                replace o59a := OwnS.step hb o59a
                replace o59b := OwnS.step hb o59b
                clear hb
                go_upto_region 12 with fail
                go_cut [53] (fun sd wx => sd = .bool false ∧ Below u7.heap.size u7 wx)
                case first =>
                  obtain ⟨zb7a, cb7a0, cb7a1, cb7a2, cb7a3⟩ := bx610.open4
                  obtain ⟨zb7b, cb7b0, cb7b1, cb7b2, cb7b3⟩ := (Box.step hS bx36).open4
                  go_wp2_with fail
                  refine (L_eqFilm _ (RS.step (by repeat (first | (with_reducible exact Below.refl _ _) | (with_reducible assumption) | ((with_reducible refine Below.alloc ?_ ?_ _); rotate_left; (first | omega | (simp <;> omega))) | ((with_reducible refine Below.setCell ?_ ?_ _); rotate_left; (first | omega | (simp <;> omega))) | (with_reducible refine below_drewN ?_ _) | (with_reducible refine Below.drew ?_) | ((with_reducible refine Below.step (by assumption) ?_ ?_); rotate_left; (first | omega | (simp <;> omega))))) (OwnS.rs o610a)) (RS.step (by repeat (first | (with_reducible exact Below.refl _ _) | (with_reducible assumption) | ((with_reducible refine Below.alloc ?_ ?_ _); rotate_left; (first | omega | (simp <;> omega))) | ((with_reducible refine Below.setCell ?_ ?_ _); rotate_left; (first | omega | (simp <;> omega))) | (with_reducible refine below_drewN ?_ _) | (with_reducible refine Below.drew ?_) | ((with_reducible refine Below.step (by assumption) ?_ ?_); rotate_left; (first | omega | (simp <;> omega))))) (OwnS.rs o610b)) (RS.step (by repeat (first | (with_reducible exact Below.refl _ _) | (with_reducible assumption) | ((with_reducible refine Below.alloc ?_ ?_ _); rotate_left; (first | omega | (simp <;> omega))) | ((with_reducible refine Below.setCell ?_ ?_ _); rotate_left; (first | omega | (simp <;> omega))) | (with_reducible refine below_drewN ?_ _) | (with_reducible refine Below.drew ?_) | ((with_reducible refine Below.step (by assumption) ?_ ?_); rotate_left; (first | omega | (simp <;> omega))))) (RS.step hS o36a)) (RS.step (by repeat (first | (with_reducible exact Below.refl _ _) | (with_reducible assumption) | ((with_reducible refine Below.alloc ?_ ?_ _); rotate_left; (first | omega | (simp <;> omega))) | ((with_reducible refine Below.setCell ?_ ?_ _); rotate_left; (first | omega | (simp <;> omega))) | (with_reducible refine below_drewN ?_ _) | (with_reducible refine Below.drew ?_) | ((with_reducible refine Below.step (by assumption) ?_ ?_); rotate_left; (first | omega | (simp <;> omega))))) (RS.step hS o36b))).mono ?_
                  rintro e v7a ⟨rfl, hbv7a⟩
                  have hzv7a := hbv7a.size; (try simp at hzv7a)
                  have cv7aa := fun o => hbv7a.cell (p := ⟨B610, o, none⟩) (by first | omega | (simp <;> omega))
                  have zv7aa : B610 < v7a.heap.size := (by first | omega | (simp <;> omega))
                  have ev7aa : ¬ B610 = v7a.heap.size := (by omega)
                  have gv7aa : ¬ v7a.heap.size = B610 := (by omega)
                  have cv7ab := fun o => hbv7a.cell (p := ⟨B36, o, none⟩) (by first | omega | (simp <;> omega))
                  have zv7ab : B36 < v7a.heap.size := (by first | omega | (simp <;> omega))
                  have ev7ab : ¬ B36 = v7a.heap.size := (by omega)
                  have gv7ab : ¬ v7a.heap.size = B36 := (by omega)
                  go_wp2_with fail
                  go_meet
                  exact ⟨rfl, (by repeat (first | (with_reducible exact Below.refl _ _) | (with_reducible assumption) | ((with_reducible refine Below.alloc ?_ ?_ _); rotate_left; (first | omega | (simp <;> omega))) | ((with_reducible refine Below.setCell ?_ ?_ _); rotate_left; (first | omega | (simp <;> omega))) | (with_reducible refine below_drewN ?_ _) | (with_reducible refine Below.drew ?_) | ((with_reducible refine Below.step (by assumption) ?_ ?_); rotate_left; (first | omega | (simp <;> omega)))))⟩
                case rest =>
                  obtain ⟨u8, rfl⟩ : ∃ u8, u8 = wc := ⟨_, rfl⟩
                  obtain ⟨rfl, hb⟩ := hcut
                  replace hB := Below.step hb hB hB.size
                  replace hS := Below.step hb hS hS.size
                  replace bx48 := Box.step hb bx48
                  replace o48a := OwnS.step hb o48a
                  replace o48b := OwnS.step hb o48b
                  replace bx59 := Box.step hb bx59
                  replace o59a := OwnS.step hb o59a
                  replace o59b := OwnS.step hb o59b
                  replace bx610 := Box.step hb bx610
                  replace o610a := OwnS.step hb o610a
                  replace o610b := OwnS.step hb o610b
                  clear hb
                  go_upto_region 14 with fail
                  go_cut [58] (fun sd wx => sd = .bool false ∧ Below u8.heap.size u8 wx)
                  case first =>
                    obtain ⟨zb8a, cb8a0, cb8a1, cb8a2, cb8a3⟩ := bx48.open4
                    obtain ⟨zb8b, cb8b0, cb8b1, cb8b2, cb8b3⟩ := (Box.step hS ba0).open4
                    go_region_held3 (fun w' => w'.cell? ⟨B48, 0, none⟩ = some (.int .i64 y0a) ∧ w'.cell? ⟨B48, 1, none⟩ = some (.int .i64 y0b) ∧ w'.cell? ⟨B48, 2, none⟩ = some ((.slice A48a y0lc.length c48a)) ∧ w'.cell? ⟨B48, 3, none⟩ = some ((.slice A48b y0ld.length c48b)) ∧ w'.cell? ⟨w.heap.size, 0, none⟩ = some (.int .i64 y0a) ∧ w'.cell? ⟨w.heap.size, 1, none⟩ = some (.int .i64 y0b) ∧ w'.cell? ⟨w.heap.size, 2, none⟩ = some ((.slice A0a y0lc.length p0a)) ∧ w'.cell? ⟨w.heap.size, 3, none⟩ = some ((.slice A0b y0ld.length p0b)))
                      (first | ((try dsimp only); refine ⟨?_, ?_, ?_, ?_, ?_, ?_, ?_, ?_⟩ <;> (go_simp; done)) | go_keep)
                      (first | (go_at_call 59; (with_reducible refine (L_toFilmM (x0 := y0a) (x1 := y0b) (l0 := y0lc) (l1 := y0ld) _ by0lc by0ld (RS.step (by repeat (first | (with_reducible exact Below.refl _ _) | (with_reducible assumption) | ((with_reducible refine Below.alloc ?_ ?_ _); rotate_left; (first | omega | (simp <;> omega))) | ((with_reducible refine Below.setCell ?_ ?_ _); rotate_left; (first | omega | (simp <;> omega))) | (with_reducible refine below_drewN ?_ _) | (with_reducible refine Below.drew ?_) | ((with_reducible refine Below.step (by assumption) ?_ ?_); rotate_left; (first | omega | (simp <;> omega))))) (RS.step hS qh0a)) (RS.step (by repeat (first | (with_reducible exact Below.refl _ _) | (with_reducible assumption) | ((with_reducible refine Below.alloc ?_ ?_ _); rotate_left; (first | omega | (simp <;> omega))) | ((with_reducible refine Below.setCell ?_ ?_ _); rotate_left; (first | omega | (simp <;> omega))) | (with_reducible refine below_drewN ?_ _) | (with_reducible refine Below.drew ?_) | ((with_reducible refine Below.step (by assumption) ?_ ?_); rotate_left; (first | omega | (simp <;> omega))))) (RS.step hS qh0b))).mono ?_); rintro e v8a ⟨Tv8aa, kv8aa, Tv8ab, kv8ab, rfl, ov8aa, ov8ab, gev8aa, gev8ab, div8a, hbv8a⟩; have hzv8a := hbv8a.size; (try simp at hzv8a); have cv8aa := fun o => hbv8a.cell (p := ⟨B48, o, none⟩) (by first | omega | (simp <;> omega)); have zv8aa : B48 < v8a.heap.size := (by first | omega | (simp <;> omega)); have ev8aa : ¬ B48 = v8a.heap.size := (by omega); have gv8aa : ¬ v8a.heap.size = B48 := (by omega); have cv8ab := fun o => hbv8a.cell (p := ⟨w.heap.size, o, none⟩) (by first | omega | (simp <;> omega)); have zv8ab : w.heap.size < v8a.heap.size := (by first | omega | (simp <;> omega)); have ev8ab : ¬ w.heap.size = v8a.heap.size := (by omega); have gv8ab : ¬ v8a.heap.size = w.heap.size := (by omega)) | (go_at_call 61; (with_reducible refine (L_eqFilm _ (RS.step (by repeat (first | (with_reducible exact Below.refl _ _) | (with_reducible assumption) | ((with_reducible refine Below.alloc ?_ ?_ _); rotate_left; (first | omega | (simp <;> omega))) | ((with_reducible refine Below.setCell ?_ ?_ _); rotate_left; (first | omega | (simp <;> omega))) | (with_reducible refine below_drewN ?_ _) | (with_reducible refine Below.drew ?_) | ((with_reducible refine Below.step (by assumption) ?_ ?_); rotate_left; (first | omega | (simp <;> omega))))) (OwnS.rs o48a)) (RS.step (by repeat (first | (with_reducible exact Below.refl _ _) | (with_reducible assumption) | ((with_reducible refine Below.alloc ?_ ?_ _); rotate_left; (first | omega | (simp <;> omega))) | ((with_reducible refine Below.setCell ?_ ?_ _); rotate_left; (first | omega | (simp <;> omega))) | (with_reducible refine below_drewN ?_ _) | (with_reducible refine Below.drew ?_) | ((with_reducible refine Below.step (by assumption) ?_ ?_); rotate_left; (first | omega | (simp <;> omega))))) (OwnS.rs o48b)) (RS.step (by repeat (first | (with_reducible exact Below.refl _ _) | (with_reducible assumption) | ((with_reducible refine Below.alloc ?_ ?_ _); rotate_left; (first | omega | (simp <;> omega))) | ((with_reducible refine Below.setCell ?_ ?_ _); rotate_left; (first | omega | (simp <;> omega))) | (with_reducible refine below_drewN ?_ _) | (with_reducible refine Below.drew ?_) | ((with_reducible refine Below.step (by assumption) ?_ ?_); rotate_left; (first | omega | (simp <;> omega))))) (OwnS.rs ov8aa)) (RS.step (by repeat (first | (with_reducible exact Below.refl _ _) | (with_reducible assumption) | ((with_reducible refine Below.alloc ?_ ?_ _); rotate_left; (first | omega | (simp <;> omega))) | ((with_reducible refine Below.setCell ?_ ?_ _); rotate_left; (first | omega | (simp <;> omega))) | (with_reducible refine below_drewN ?_ _) | (with_reducible refine Below.drew ?_) | ((with_reducible refine Below.step (by assumption) ?_ ?_); rotate_left; (first | omega | (simp <;> omega))))) (OwnS.rs ov8ab))).mono ?_); rintro e v8b ⟨rfl, hbv8b⟩; have hzv8b := hbv8b.size; (try simp at hzv8b); have cv8ba := fun o => hbv8b.cell (p := ⟨B48, o, none⟩) (by first | omega | (simp <;> omega)); have zv8ba : B48 < v8b.heap.size := (by first | omega | (simp <;> omega)); have ev8ba : ¬ B48 = v8b.heap.size := (by omega); have gv8ba : ¬ v8b.heap.size = B48 := (by omega); have cv8bb := fun o => hbv8b.cell (p := ⟨w.heap.size, o, none⟩) (by first | omega | (simp <;> omega)); have zv8bb : w.heap.size < v8b.heap.size := (by first | omega | (simp <;> omega)); have ev8bb : ¬ w.heap.size = v8b.heap.size := (by omega); have gv8bb : ¬ v8b.heap.size = w.heap.size := (by omega)))
                    all_goals
                      go_wp2_with fail
                      go_meet
                      exact ⟨rfl, (by repeat (first | (with_reducible exact Below.refl _ _) | (with_reducible assumption) | ((with_reducible refine Below.alloc ?_ ?_ _); rotate_left; (first | omega | (simp <;> omega))) | ((with_reducible refine Below.setCell ?_ ?_ _); rotate_left; (first | omega | (simp <;> omega))) | (with_reducible refine below_drewN ?_ _) | (with_reducible refine Below.drew ?_) | ((with_reducible refine Below.step (by assumption) ?_ ?_); rotate_left; (first | omega | (simp <;> omega)))))⟩
                  case rest =>
                    obtain ⟨u9, rfl⟩ : ∃ u9, u9 = wc := ⟨_, rfl⟩
                    obtain ⟨rfl, hb⟩ := hcut
                    replace hB := Below.step hb hB hB.size
                    replace hS := Below.step hb hS hS.size
                    replace bx48 := Box.step hb bx48
                    replace o48a := OwnS.step hb o48a
                    replace o48b := OwnS.step hb o48b
                    replace bx59 := Box.step hb bx59
                    replace o59a := OwnS.step hb o59a
                    replace o59b := OwnS.step hb o59b
                    replace bx610 := Box.step hb bx610
                    replace o610a := OwnS.step hb o610a
                    replace o610b := OwnS.step hb o610b
                    clear hb
                    go_upto_region 16 with fail
                    go_cut [63] (fun sd wx => sd = .bool false ∧ Below u9.heap.size u9 wx)
                    case first =>
                      obtain ⟨zb9a, cb9a0, cb9a1, cb9a2, cb9a3⟩ := bx59.open4
                      obtain ⟨zb9b, cb9b0, cb9b1, cb9b2, cb9b3⟩ := (Box.step hS ba1).open4
                      go_region_held3 (fun w' => w'.cell? ⟨B59, 0, none⟩ = some (.int .i64 y1a) ∧ w'.cell? ⟨B59, 1, none⟩ = some (.int .i64 y1b) ∧ w'.cell? ⟨B59, 2, none⟩ = some ((.slice A59a y1lc.length c59a)) ∧ w'.cell? ⟨B59, 3, none⟩ = some ((.slice A59b y1ld.length c59b)) ∧ w'.cell? ⟨w.heap.size + 1, 0, none⟩ = some (.int .i64 y1a) ∧ w'.cell? ⟨w.heap.size + 1, 1, none⟩ = some (.int .i64 y1b) ∧ w'.cell? ⟨w.heap.size + 1, 2, none⟩ = some ((.slice A1a y1lc.length p1a)) ∧ w'.cell? ⟨w.heap.size + 1, 3, none⟩ = some ((.slice A1b y1ld.length p1b)))
                        (first | ((try dsimp only); refine ⟨?_, ?_, ?_, ?_, ?_, ?_, ?_, ?_⟩ <;> (go_simp; done)) | go_keep)
                        (first | (go_at_call 59; (with_reducible refine (L_toFilmM (x0 := y1a) (x1 := y1b) (l0 := y1lc) (l1 := y1ld) _ by1lc by1ld (RS.step (by repeat (first | (with_reducible exact Below.refl _ _) | (with_reducible assumption) | ((with_reducible refine Below.alloc ?_ ?_ _); rotate_left; (first | omega | (simp <;> omega))) | ((with_reducible refine Below.setCell ?_ ?_ _); rotate_left; (first | omega | (simp <;> omega))) | (with_reducible refine below_drewN ?_ _) | (with_reducible refine Below.drew ?_) | ((with_reducible refine Below.step (by assumption) ?_ ?_); rotate_left; (first | omega | (simp <;> omega))))) (RS.step hS qh1a)) (RS.step (by repeat (first | (with_reducible exact Below.refl _ _) | (with_reducible assumption) | ((with_reducible refine Below.alloc ?_ ?_ _); rotate_left; (first | omega | (simp <;> omega))) | ((with_reducible refine Below.setCell ?_ ?_ _); rotate_left; (first | omega | (simp <;> omega))) | (with_reducible refine below_drewN ?_ _) | (with_reducible refine Below.drew ?_) | ((with_reducible refine Below.step (by assumption) ?_ ?_); rotate_left; (first | omega | (simp <;> omega))))) (RS.step hS qh1b))).mono ?_); rintro e v9a ⟨Tv9aa, kv9aa, Tv9ab, kv9ab, rfl, ov9aa, ov9ab, gev9aa, gev9ab, div9a, hbv9a⟩; have hzv9a := hbv9a.size; (try simp at hzv9a); have cv9aa := fun o => hbv9a.cell (p := ⟨B59, o, none⟩) (by first | omega | (simp <;> omega)); have zv9aa : B59 < v9a.heap.size := (by first | omega | (simp <;> omega)); have ev9aa : ¬ B59 = v9a.heap.size := (by omega); have gv9aa : ¬ v9a.heap.size = B59 := (by omega); have cv9ab := fun o => hbv9a.cell (p := ⟨w.heap.size + 1, o, none⟩) (by first | omega | (simp <;> omega)); have zv9ab : w.heap.size + 1 < v9a.heap.size := (by first | omega | (simp <;> omega)); have ev9ab : ¬ w.heap.size + 1 = v9a.heap.size := (by omega); have gv9ab : ¬ v9a.heap.size = w.heap.size + 1 := (by omega)) | (go_at_call 61; (with_reducible refine (L_eqFilm _ (RS.step (by repeat (first | (with_reducible exact Below.refl _ _) | (with_reducible assumption) | ((with_reducible refine Below.alloc ?_ ?_ _); rotate_left; (first | omega | (simp <;> omega))) | ((with_reducible refine Below.setCell ?_ ?_ _); rotate_left; (first | omega | (simp <;> omega))) | (with_reducible refine below_drewN ?_ _) | (with_reducible refine Below.drew ?_) | ((with_reducible refine Below.step (by assumption) ?_ ?_); rotate_left; (first | omega | (simp <;> omega))))) (OwnS.rs o59a)) (RS.step (by repeat (first | (with_reducible exact Below.refl _ _) | (with_reducible assumption) | ((with_reducible refine Below.alloc ?_ ?_ _); rotate_left; (first | omega | (simp <;> omega))) | ((with_reducible refine Below.setCell ?_ ?_ _); rotate_left; (first | omega | (simp <;> omega))) | (with_reducible refine below_drewN ?_ _) | (with_reducible refine Below.drew ?_) | ((with_reducible refine Below.step (by assumption) ?_ ?_); rotate_left; (first | omega | (simp <;> omega))))) (OwnS.rs o59b)) (RS.step (by repeat (first | (with_reducible exact Below.refl _ _) | (with_reducible assumption) | ((with_reducible refine Below.alloc ?_ ?_ _); rotate_left; (first | omega | (simp <;> omega))) | ((with_reducible refine Below.setCell ?_ ?_ _); rotate_left; (first | omega | (simp <;> omega))) | (with_reducible refine below_drewN ?_ _) | (with_reducible refine Below.drew ?_) | ((with_reducible refine Below.step (by assumption) ?_ ?_); rotate_left; (first | omega | (simp <;> omega))))) (OwnS.rs ov9aa)) (RS.step (by repeat (first | (with_reducible exact Below.refl _ _) | (with_reducible assumption) | ((with_reducible refine Below.alloc ?_ ?_ _); rotate_left; (first | omega | (simp <;> omega))) | ((with_reducible refine Below.setCell ?_ ?_ _); rotate_left; (first | omega | (simp <;> omega))) | (with_reducible refine below_drewN ?_ _) | (with_reducible refine Below.drew ?_) | ((with_reducible refine Below.step (by assumption) ?_ ?_); rotate_left; (first | omega | (simp <;> omega))))) (OwnS.rs ov9ab))).mono ?_); rintro e v9b ⟨rfl, hbv9b⟩; have hzv9b := hbv9b.size; (try simp at hzv9b); have cv9ba := fun o => hbv9b.cell (p := ⟨B59, o, none⟩) (by first | omega | (simp <;> omega)); have zv9ba : B59 < v9b.heap.size := (by first | omega | (simp <;> omega)); have ev9ba : ¬ B59 = v9b.heap.size := (by omega); have gv9ba : ¬ v9b.heap.size = B59 := (by omega); have cv9bb := fun o => hbv9b.cell (p := ⟨w.heap.size + 1, o, none⟩) (by first | omega | (simp <;> omega)); have zv9bb : w.heap.size + 1 < v9b.heap.size := (by first | omega | (simp <;> omega)); have ev9bb : ¬ w.heap.size + 1 = v9b.heap.size := (by omega); have gv9bb : ¬ v9b.heap.size = w.heap.size + 1 := (by omega)))
                      all_goals
                        go_wp2_with fail
                        go_meet
                        exact ⟨rfl, (by repeat (first | (with_reducible exact Below.refl _ _) | (with_reducible assumption) | ((with_reducible refine Below.alloc ?_ ?_ _); rotate_left; (first | omega | (simp <;> omega))) | ((with_reducible refine Below.setCell ?_ ?_ _); rotate_left; (first | omega | (simp <;> omega))) | (with_reducible refine below_drewN ?_ _) | (with_reducible refine Below.drew ?_) | ((with_reducible refine Below.step (by assumption) ?_ ?_); rotate_left; (first | omega | (simp <;> omega)))))⟩
                    case rest =>
                      obtain ⟨u10, rfl⟩ : ∃ u10, u10 = wc := ⟨_, rfl⟩
                      obtain ⟨rfl, hb⟩ := hcut
                      replace hB := Below.step hb hB hB.size
                      replace hS := Below.step hb hS hS.size
                      replace bx48 := Box.step hb bx48
                      replace o48a := OwnS.step hb o48a
                      replace o48b := OwnS.step hb o48b
                      replace bx59 := Box.step hb bx59
                      replace o59a := OwnS.step hb o59a
                      replace o59b := OwnS.step hb o59b
                      replace bx610 := Box.step hb bx610
                      replace o610a := OwnS.step hb o610a
                      replace o610b := OwnS.step hb o610b
                      clear hb
                      go_upto_region 19 with fail
                      go_cut [12] (fun sd wx => sd = .int .i64 ((1 : Int) + (y0lc.length : Int) + (y0ld.length : Int)) ∧ OwnS wx 1 A48a y0lc.length c48a 3 (ints (upFrom (1 : Int) y0lc.length)) ∧ OwnS wx 1 A48b y0ld.length c48b 4 (bools (thirds ((1 : Int) + (y0lc.length : Int)) y0ld.length)) ∧ Only u10.heap.size (gOf A48a ++ gOf A48b) u10 wx)
                      case first =>
                        obtain ⟨zb10a, cb10a0, cb10a1, cb10a2, cb10a3⟩ := bx48.open4
                        go_wp2_with fail
                        refine (L_markFilmG _ o48a (by omega) o48b (by omega) di48 (by omega) (by omega)).mono ?_
                        rintro e v10a ⟨rfl, ov10aa, ov10ab, hOv10a⟩
                        have hzv10a := hOv10a.size
                        go_wp2_with fail
                        go_meet
                        exact ⟨rfl, ov10aa, ov10ab, hOv10a⟩
                      case rest =>
                        obtain ⟨u11, rfl⟩ : ∃ u11, u11 = wc := ⟨_, rfl⟩
                        obtain ⟨rfl, nw0, nw1, hO⟩ := hcut
                        have hG : ∀ y, y ∈ gOf A48a ++ gOf A48b → u4.heap.size ≤ y := fun y hx => (List.mem_append.1 hx).elim (ge48a y) (ge48b y)
                        replace hB := hB.trans (hO.below hB.size (fun y hy => by have := hG y hy; omega))
                        replace hS := hS.trans (hO.below hS.size (fun y hy => by have := hG y hy; omega))
                        replace bx48 := Box.only hO bx48 bx48.lt (fun hy => (List.mem_append.1 hy).elim (fun h => ne480 _ h rfl) (fun h => ne481 _ h rfl))
                        have hL : ∀ y, y ∈ gOf A48a ++ gOf A48b → y < u5.heap.size := fun y hx => (List.mem_append.1 hx).elim (lto48a5 y) (lto48b5 y)
                        replace bx59 := Box.only hO bx59 bx59.lt (fun hy => by have := hL _ hy; omega)
                        replace o59a := OwnS.only o59a hO (fun y hy => ⟨OwnS.lt o59a y hy, fun hx => by have h1 := hL y hx; have h2 := ge59a y hy; omega⟩)
                        replace o59b := OwnS.only o59b hO (fun y hy => ⟨OwnS.lt o59b y hy, fun hx => by have h1 := hL y hx; have h2 := ge59b y hy; omega⟩)
                        have hL : ∀ y, y ∈ gOf A48a ++ gOf A48b → y < u6.heap.size := fun y hx => (List.mem_append.1 hx).elim (lto48a6 y) (lto48b6 y)
                        replace bx610 := Box.only hO bx610 bx610.lt (fun hy => by have := hL _ hy; omega)
                        replace o610a := OwnS.only o610a hO (fun y hy => ⟨OwnS.lt o610a y hy, fun hx => by have h1 := hL y hx; have h2 := ge610a y hy; omega⟩)
                        replace o610b := OwnS.only o610b hO (fun y hy => ⟨OwnS.lt o610b y hy, fun hx => by have h1 := hL y hx; have h2 := ge610b y hy; omega⟩)
                        clear o48a
                        have o48a := nw0
                        clear nw0
                        clear o48b
                        have o48b := nw1
                        clear nw1
                        clear hO hG
                        have t10 : ¬ (1 : Int) + (y0lc.length : Int) + (y0ld.length : Int) < 0 := by omega
                        go_upto_region 20 with fail
                        go_cut [12] (fun sd wx => sd = .int .i64 (((1 : Int) + (y0lc.length : Int) + (y0ld.length : Int)) + (y1lc.length : Int) + (y1ld.length : Int)) ∧ OwnS wx 1 A59a y1lc.length c59a 3 (ints (upFrom ((1 : Int) + (y0lc.length : Int) + (y0ld.length : Int)) y1lc.length)) ∧ OwnS wx 1 A59b y1ld.length c59b 4 (bools (thirds (((1 : Int) + (y0lc.length : Int) + (y0ld.length : Int)) + (y1lc.length : Int)) y1ld.length)) ∧ Only u11.heap.size (gOf A59a ++ gOf A59b) u11 wx)
                        case first =>
                          obtain ⟨zb11a, cb11a0, cb11a1, cb11a2, cb11a3⟩ := bx59.open4
                          go_wp2_with fail
                          refine (L_markFilmG _ o59a (by omega) o59b (by omega) di59 (by omega) (by omega)).mono ?_
                          rintro e v11a ⟨rfl, ov11aa, ov11ab, hOv11a⟩
                          have hzv11a := hOv11a.size
                          go_wp2_with fail
                          go_meet
                          exact ⟨rfl, ov11aa, ov11ab, hOv11a⟩
                        case rest =>
                          obtain ⟨u12, rfl⟩ : ∃ u12, u12 = wc := ⟨_, rfl⟩
                          obtain ⟨rfl, nw0, nw1, hO⟩ := hcut
                          have hG : ∀ y, y ∈ gOf A59a ++ gOf A59b → u5.heap.size ≤ y := fun y hx => (List.mem_append.1 hx).elim (ge59a y) (ge59b y)
                          replace hB := hB.trans (hO.below hB.size (fun y hy => by have := hG y hy; omega))
                          replace hS := hS.trans (hO.below hS.size (fun y hy => by have := hG y hy; omega))
                          replace bx48 := Box.only hO bx48 bx48.lt (fun hy => by have h1 := hG _ hy; have h2 := lbbx485; omega)
                          replace o48a := OwnS.only o48a hO (fun y hy => ⟨OwnS.lt o48a y hy, fun hx => by have h1 := hG y hx; have h2 := lto48a5 y hy; omega⟩)
                          replace o48b := OwnS.only o48b hO (fun y hy => ⟨OwnS.lt o48b y hy, fun hx => by have h1 := hG y hx; have h2 := lto48b5 y hy; omega⟩)
                          replace bx59 := Box.only hO bx59 bx59.lt (fun hy => (List.mem_append.1 hy).elim (fun h => ne590 _ h rfl) (fun h => ne591 _ h rfl))
                          have hL : ∀ y, y ∈ gOf A59a ++ gOf A59b → y < u6.heap.size := fun y hx => (List.mem_append.1 hx).elim (lto59a6 y) (lto59b6 y)
                          replace bx610 := Box.only hO bx610 bx610.lt (fun hy => by have := hL _ hy; omega)
                          replace o610a := OwnS.only o610a hO (fun y hy => ⟨OwnS.lt o610a y hy, fun hx => by have h1 := hL y hx; have h2 := ge610a y hy; omega⟩)
                          replace o610b := OwnS.only o610b hO (fun y hy => ⟨OwnS.lt o610b y hy, fun hx => by have h1 := hL y hx; have h2 := ge610b y hy; omega⟩)
                          clear o59a
                          have o59a := nw0
                          clear nw0
                          clear o59b
                          have o59b := nw1
                          clear nw1
                          clear hO hG
                          have t11 : ¬ ((1 : Int) + (y0lc.length : Int) + (y0ld.length : Int)) + (y1lc.length : Int) + (y1ld.length : Int) < 0 := by omega
                          go_upto_region 21 with fail
                          go_cut [82] (fun sd wx => sd = .bool false ∧ Below u12.heap.size u12 wx)
                          case first =>
                            obtain ⟨zb12a, cb12a0, cb12a1, cb12a2, cb12a3⟩ := bx610.open4
                            obtain ⟨zb12b, cb12b0, cb12b1, cb12b2, cb12b3⟩ := (Box.step hS bx36).open4
                            go_wp2_with fail
                            refine (L_eqFilm _ (RS.step (by repeat (first | (with_reducible exact Below.refl _ _) | (with_reducible assumption) | ((with_reducible refine Below.alloc ?_ ?_ _); rotate_left; (first | omega | (simp <;> omega))) | ((with_reducible refine Below.setCell ?_ ?_ _); rotate_left; (first | omega | (simp <;> omega))) | (with_reducible refine below_drewN ?_ _) | (with_reducible refine Below.drew ?_) | ((with_reducible refine Below.step (by assumption) ?_ ?_); rotate_left; (first | omega | (simp <;> omega))))) (OwnS.rs o610a)) (RS.step (by repeat (first | (with_reducible exact Below.refl _ _) | (with_reducible assumption) | ((with_reducible refine Below.alloc ?_ ?_ _); rotate_left; (first | omega | (simp <;> omega))) | ((with_reducible refine Below.setCell ?_ ?_ _); rotate_left; (first | omega | (simp <;> omega))) | (with_reducible refine below_drewN ?_ _) | (with_reducible refine Below.drew ?_) | ((with_reducible refine Below.step (by assumption) ?_ ?_); rotate_left; (first | omega | (simp <;> omega))))) (OwnS.rs o610b)) (RS.step (by repeat (first | (with_reducible exact Below.refl _ _) | (with_reducible assumption) | ((with_reducible refine Below.alloc ?_ ?_ _); rotate_left; (first | omega | (simp <;> omega))) | ((with_reducible refine Below.setCell ?_ ?_ _); rotate_left; (first | omega | (simp <;> omega))) | (with_reducible refine below_drewN ?_ _) | (with_reducible refine Below.drew ?_) | ((with_reducible refine Below.step (by assumption) ?_ ?_); rotate_left; (first | omega | (simp <;> omega))))) (RS.step hS o36a)) (RS.step (by repeat (first | (with_reducible exact Below.refl _ _) | (with_reducible assumption) | ((with_reducible refine Below.alloc ?_ ?_ _); rotate_left; (first | omega | (simp <;> omega))) | ((with_reducible refine Below.setCell ?_ ?_ _); rotate_left; (first | omega | (simp <;> omega))) | (with_reducible refine below_drewN ?_ _) | (with_reducible refine Below.drew ?_) | ((with_reducible refine Below.step (by assumption) ?_ ?_); rotate_left; (first | omega | (simp <;> omega))))) (RS.step hS o36b))).mono ?_
                            rintro e v12a ⟨rfl, hbv12a⟩
                            have hzv12a := hbv12a.size; (try simp at hzv12a)
                            have cv12aa := fun o => hbv12a.cell (p := ⟨B610, o, none⟩) (by first | omega | (simp <;> omega))
                            have zv12aa : B610 < v12a.heap.size := (by first | omega | (simp <;> omega))
                            have ev12aa : ¬ B610 = v12a.heap.size := (by omega)
                            have gv12aa : ¬ v12a.heap.size = B610 := (by omega)
                            have cv12ab := fun o => hbv12a.cell (p := ⟨B36, o, none⟩) (by first | omega | (simp <;> omega))
                            have zv12ab : B36 < v12a.heap.size := (by first | omega | (simp <;> omega))
                            have ev12ab : ¬ B36 = v12a.heap.size := (by omega)
                            have gv12ab : ¬ v12a.heap.size = B36 := (by omega)
                            go_wp2_with fail
                            go_meet
                            exact ⟨rfl, (by repeat (first | (with_reducible exact Below.refl _ _) | (with_reducible assumption) | ((with_reducible refine Below.alloc ?_ ?_ _); rotate_left; (first | omega | (simp <;> omega))) | ((with_reducible refine Below.setCell ?_ ?_ _); rotate_left; (first | omega | (simp <;> omega))) | (with_reducible refine below_drewN ?_ _) | (with_reducible refine Below.drew ?_) | ((with_reducible refine Below.step (by assumption) ?_ ?_); rotate_left; (first | omega | (simp <;> omega)))))⟩
                          case rest =>
                            obtain ⟨u13, rfl⟩ : ∃ u13, u13 = wc := ⟨_, rfl⟩
                            obtain ⟨rfl, hb⟩ := hcut
                            replace hB := Below.step hb hB hB.size
                            replace hS := Below.step hb hS hS.size
                            replace bx48 := Box.step hb bx48
                            replace o48a := OwnS.step hb o48a
                            replace o48b := OwnS.step hb o48b
                            replace bx59 := Box.step hb bx59
                            replace o59a := OwnS.step hb o59a
                            replace o59b := OwnS.step hb o59b
                            replace bx610 := Box.step hb bx610
                            replace o610a := OwnS.step hb o610a
                            replace o610b := OwnS.step hb o610b
                            clear hb
                            go_upto_region 24 with fail
                            go_cut [13] (fun sd wx => sd = .int .i64 ((1 : Int) + (r0lc.length : Int) + (r0ld.length : Int)) ∧ OwnS wx 1 A610a r0lc.length c610a 3 (ints (upFrom (1 : Int) r0lc.length)) ∧ OwnS wx 1 A610b r0ld.length c610b 4 (bools (thirds ((1 : Int) + (r0lc.length : Int)) r0ld.length)) ∧ Only u13.heap.size (gOf A610a ++ gOf A610b) u13 wx)
                            case first =>
                              obtain ⟨zb13a, cb13a0, cb13a1, cb13a2, cb13a3⟩ := bx610.open4
                              go_wp2_with fail
                              refine (L_markFilmG _ o610a (by omega) o610b (by omega) di610 (by omega) (by omega)).mono ?_
                              rintro e v13a ⟨rfl, ov13aa, ov13ab, hOv13a⟩
                              have hzv13a := hOv13a.size
                              go_wp2_with fail
                              go_meet
                              exact ⟨rfl, ov13aa, ov13ab, hOv13a⟩
                            case rest =>
                              obtain ⟨u14, rfl⟩ : ∃ u14, u14 = wc := ⟨_, rfl⟩
                              obtain ⟨rfl, nw0, nw1, hO⟩ := hcut
                              have hG : ∀ y, y ∈ gOf A610a ++ gOf A610b → u6.heap.size ≤ y := fun y hx => (List.mem_append.1 hx).elim (ge610a y) (ge610b y)
                              replace hB := hB.trans (hO.below hB.size (fun y hy => by have := hG y hy; omega))
                              replace hS := hS.trans (hO.below hS.size (fun y hy => by have := hG y hy; omega))
                              replace bx48 := Box.only hO bx48 bx48.lt (fun hy => by have h1 := hG _ hy; have h2 := lbbx486; omega)
                              replace o48a := OwnS.only o48a hO (fun y hy => ⟨OwnS.lt o48a y hy, fun hx => by have h1 := hG y hx; have h2 := lto48a6 y hy; omega⟩)
                              replace o48b := OwnS.only o48b hO (fun y hy => ⟨OwnS.lt o48b y hy, fun hx => by have h1 := hG y hx; have h2 := lto48b6 y hy; omega⟩)
                              replace bx59 := Box.only hO bx59 bx59.lt (fun hy => by have h1 := hG _ hy; have h2 := lbbx596; omega)
                              replace o59a := OwnS.only o59a hO (fun y hy => ⟨OwnS.lt o59a y hy, fun hx => by have h1 := hG y hx; have h2 := lto59a6 y hy; omega⟩)
                              replace o59b := OwnS.only o59b hO (fun y hy => ⟨OwnS.lt o59b y hy, fun hx => by have h1 := hG y hx; have h2 := lto59b6 y hy; omega⟩)
                              replace bx610 := Box.only hO bx610 bx610.lt (fun hy => (List.mem_append.1 hy).elim (fun h => ne6100 _ h rfl) (fun h => ne6101 _ h rfl))
                              clear o610a
                              have o610a := nw0
                              clear nw0
                              clear o610b
                              have o610b := nw1
                              clear nw1
                              clear hO hG
                              have t13 : ¬ (1 : Int) + (r0lc.length : Int) + (r0ld.length : Int) < 0 := by omega
                              go_upto_region 26 with fail
                              go_cut [14] (fun sd wx => sd = .int .i64 ((1 : Int) + (r0lc.length : Int) + (r0ld.length : Int)) ∧ Below u14.heap.size u14 wx)
                              case first =>
                                obtain ⟨zb14a, cb14a0, cb14a1, cb14a2, cb14a3⟩ := bx610.open4
                                go_wp2_with fail
                                refine (L_heldFilmG _ o610a (by omega) o610b (by omega) (by omega) (by omega)).mono ?_
                                rintro e v14a ⟨rfl, hbv14a⟩
                                have hzv14a := hbv14a.size; (try simp at hzv14a)
                                have cv14aa := fun o => hbv14a.cell (p := ⟨B610, o, none⟩) (by first | omega | (simp <;> omega))
                                have zv14aa : B610 < v14a.heap.size := (by first | omega | (simp <;> omega))
                                have ev14aa : ¬ B610 = v14a.heap.size := (by omega)
                                have gv14aa : ¬ v14a.heap.size = B610 := (by omega)
                                go_wp2_with fail
                                go_meet
                                exact ⟨rfl, (by repeat (first | (with_reducible exact Below.refl _ _) | (with_reducible assumption) | ((with_reducible refine Below.alloc ?_ ?_ _); rotate_left; (first | omega | (simp <;> omega))) | ((with_reducible refine Below.setCell ?_ ?_ _); rotate_left; (first | omega | (simp <;> omega))) | (with_reducible refine below_drewN ?_ _) | (with_reducible refine Below.drew ?_) | ((with_reducible refine Below.step (by assumption) ?_ ?_); rotate_left; (first | omega | (simp <;> omega)))))⟩
                              case rest =>
                                obtain ⟨u15, rfl⟩ : ∃ u15, u15 = wc := ⟨_, rfl⟩
                                obtain ⟨rfl, hb⟩ := hcut
                                replace hB := Below.step hb hB hB.size
                                replace hS := Below.step hb hS hS.size
                                replace bx48 := Box.step hb bx48
                                replace o48a := OwnS.step hb o48a
                                replace o48b := OwnS.step hb o48b
                                replace bx59 := Box.step hb bx59
                                replace o59a := OwnS.step hb o59a
                                replace o59b := OwnS.step hb o59b
                                replace bx610 := Box.step hb bx610
                                replace o610a := OwnS.step hb o610a
                                replace o610b := OwnS.step hb o610b
                                clear hb
                                have t14 : ¬ (1 : Int) + (r0lc.length : Int) + (r0ld.length : Int) < 0 := by omega
                                go_upto_region 31 with fail
                                go_cut [15, 16] (fun s15 s16 wx => ∃ A1515a c1515a A1515b c1515b B1515, s15 = .pointer (some ⟨B1515, 0, none⟩) ∧ Box wx B1515 [.int .i64 r0a, .int .i64 r0b, (.slice A1515a r0lc.length c1515a), (.slice A1515b r0ld.length c1515b)] ∧ u15.heap.size ≤ B1515 ∧ OwnS wx 1 A1515a r0lc.length c1515a 3 (ints r0lc) ∧ (∀ x, x ∈ gOf A1515a → u15.heap.size ≤ x) ∧ (∀ x, x ∈ gOf A1515a → x ≠ B1515) ∧ OwnS wx 1 A1515b r0ld.length c1515b 4 (bools r0ld) ∧ (∀ x, x ∈ gOf A1515b → u15.heap.size ≤ x) ∧ (∀ x, x ∈ gOf A1515b → x ≠ B1515) ∧ (∀ x, x ∈ gOf A1515a → x ∉ gOf A1515b) ∧ s16 = (.bool r1) ∧ Below u15.heap.size u15 wx)
                                case first =>
                                  obtain ⟨zb15a, cb15a0, cb15a1, cb15a2, cb15a3⟩ := (Box.step hS ba0).open4
                                  obtain ⟨zb15b, cb15b0, cb15b1, cb15b2, cb15b3⟩ := (Box.step hS ba1).open4
                                  go_region_held3 (fun w' => w'.cell? ⟨w.heap.size, 0, none⟩ = some (.int .i64 y0a) ∧ w'.cell? ⟨w.heap.size, 1, none⟩ = some (.int .i64 y0b) ∧ w'.cell? ⟨w.heap.size, 2, none⟩ = some ((.slice A0a y0lc.length p0a)) ∧ w'.cell? ⟨w.heap.size, 3, none⟩ = some ((.slice A0b y0ld.length p0b)) ∧ w'.cell? ⟨w.heap.size + 1, 0, none⟩ = some (.int .i64 y1a) ∧ w'.cell? ⟨w.heap.size + 1, 1, none⟩ = some (.int .i64 y1b) ∧ w'.cell? ⟨w.heap.size + 1, 2, none⟩ = some ((.slice A1a y1lc.length p1a)) ∧ w'.cell? ⟨w.heap.size + 1, 3, none⟩ = some ((.slice A1b y1ld.length p1b)))
                                    (first | ((try dsimp only); refine ⟨?_, ?_, ?_, ?_, ?_, ?_, ?_, ?_⟩ <;> (go_simp; done)) | go_keep)
                                    (first | (go_at_call 59; (with_reducible refine (L_toFilmM (x0 := y0a) (x1 := y0b) (l0 := y0lc) (l1 := y0ld) _ by0lc by0ld (RS.step (by repeat (first | (with_reducible exact Below.refl _ _) | (with_reducible assumption) | ((with_reducible refine Below.alloc ?_ ?_ _); rotate_left; (first | omega | (simp <;> omega))) | ((with_reducible refine Below.setCell ?_ ?_ _); rotate_left; (first | omega | (simp <;> omega))) | (with_reducible refine below_drewN ?_ _) | (with_reducible refine Below.drew ?_) | ((with_reducible refine Below.step (by assumption) ?_ ?_); rotate_left; (first | omega | (simp <;> omega))))) (RS.step hS qh0a)) (RS.step (by repeat (first | (with_reducible exact Below.refl _ _) | (with_reducible assumption) | ((with_reducible refine Below.alloc ?_ ?_ _); rotate_left; (first | omega | (simp <;> omega))) | ((with_reducible refine Below.setCell ?_ ?_ _); rotate_left; (first | omega | (simp <;> omega))) | (with_reducible refine below_drewN ?_ _) | (with_reducible refine Below.drew ?_) | ((with_reducible refine Below.step (by assumption) ?_ ?_); rotate_left; (first | omega | (simp <;> omega))))) (RS.step hS qh0b))).mono ?_); rintro e v15a ⟨Tv15aa, kv15aa, Tv15ab, kv15ab, rfl, ov15aa, ov15ab, gev15aa, gev15ab, div15a, hbv15a⟩; have hzv15a := hbv15a.size; (try simp at hzv15a); have cv15aa := fun o => hbv15a.cell (p := ⟨w.heap.size, o, none⟩) (by first | omega | (simp <;> omega)); have zv15aa : w.heap.size < v15a.heap.size := (by first | omega | (simp <;> omega)); have ev15aa : ¬ w.heap.size = v15a.heap.size := (by omega); have gv15aa : ¬ v15a.heap.size = w.heap.size := (by omega); have cv15ab := fun o => hbv15a.cell (p := ⟨w.heap.size + 1, o, none⟩) (by first | omega | (simp <;> omega)); have zv15ab : w.heap.size + 1 < v15a.heap.size := (by first | omega | (simp <;> omega)); have ev15ab : ¬ w.heap.size + 1 = v15a.heap.size := (by omega); have gv15ab : ¬ v15a.heap.size = w.heap.size + 1 := (by omega); (try (refine with_box hbv15a (u15.heap.size) ?_ ?_; (first | omega | (simp <;> omega)); intro ncv15a0 nfv15a0 nzv15a0))) | (go_at_call 59; (with_reducible refine (L_toFilmM (x0 := y1a) (x1 := y1b) (l0 := y1lc) (l1 := y1ld) _ by1lc by1ld (RS.step (by repeat (first | (with_reducible exact Below.refl _ _) | (with_reducible assumption) | ((with_reducible refine Below.alloc ?_ ?_ _); rotate_left; (first | omega | (simp <;> omega))) | ((with_reducible refine Below.setCell ?_ ?_ _); rotate_left; (first | omega | (simp <;> omega))) | (with_reducible refine below_drewN ?_ _) | (with_reducible refine Below.drew ?_) | ((with_reducible refine Below.step (by assumption) ?_ ?_); rotate_left; (first | omega | (simp <;> omega))))) (RS.step hS qh1a)) (RS.step (by repeat (first | (with_reducible exact Below.refl _ _) | (with_reducible assumption) | ((with_reducible refine Below.alloc ?_ ?_ _); rotate_left; (first | omega | (simp <;> omega))) | ((with_reducible refine Below.setCell ?_ ?_ _); rotate_left; (first | omega | (simp <;> omega))) | (with_reducible refine below_drewN ?_ _) | (with_reducible refine Below.drew ?_) | ((with_reducible refine Below.step (by assumption) ?_ ?_); rotate_left; (first | omega | (simp <;> omega))))) (RS.step hS qh1b))).mono ?_); rintro e v15b ⟨Tv15ba, kv15ba, Tv15bb, kv15bb, rfl, ov15ba, ov15bb, gev15ba, gev15bb, div15b, hbv15b⟩; have hzv15b := hbv15b.size; (try simp at hzv15b); have cv15ba := fun o => hbv15b.cell (p := ⟨w.heap.size, o, none⟩) (by first | omega | (simp <;> omega)); have zv15ba : w.heap.size < v15b.heap.size := (by first | omega | (simp <;> omega)); have ev15ba : ¬ w.heap.size = v15b.heap.size := (by omega); have gv15ba : ¬ v15b.heap.size = w.heap.size := (by omega); have cv15bb := fun o => hbv15b.cell (p := ⟨w.heap.size + 1, o, none⟩) (by first | omega | (simp <;> omega)); have zv15bb : w.heap.size + 1 < v15b.heap.size := (by first | omega | (simp <;> omega)); have ev15bb : ¬ w.heap.size + 1 = v15b.heap.size := (by omega); have gv15bb : ¬ v15b.heap.size = w.heap.size + 1 := (by omega); (try (refine with_box hbv15b (u15.heap.size) ?_ ?_; (first | omega | (simp <;> omega)); intro ncv15b0 nfv15b0 nzv15b0)); (try (refine with_box hbv15b (v15a.heap.size) ?_ ?_; (first | omega | (simp <;> omega)); intro ncv15b1 nfv15b1 nzv15b1))) | (go_at_call 60; (with_reducible refine (HI.out _ _ _ _ _ _ _ _ _ (RS.step (by repeat (first | (with_reducible exact Below.refl _ _) | (with_reducible assumption) | ((with_reducible refine Below.alloc ?_ ?_ _); rotate_left; (first | omega | (simp <;> omega))) | ((with_reducible refine Below.setCell ?_ ?_ _); rotate_left; (first | omega | (simp <;> omega))) | (with_reducible refine below_drewN ?_ _) | (with_reducible refine Below.drew ?_) | ((with_reducible refine Below.step (by assumption) ?_ ?_); rotate_left; (first | omega | (simp <;> omega))))) (OwnS.rs ov15aa)) (RS.step (by repeat (first | (with_reducible exact Below.refl _ _) | (with_reducible assumption) | ((with_reducible refine Below.alloc ?_ ?_ _); rotate_left; (first | omega | (simp <;> omega))) | ((with_reducible refine Below.setCell ?_ ?_ _); rotate_left; (first | omega | (simp <;> omega))) | (with_reducible refine below_drewN ?_ _) | (with_reducible refine Below.drew ?_) | ((with_reducible refine Below.step (by assumption) ?_ ?_); rotate_left; (first | omega | (simp <;> omega))))) (OwnS.rs ov15ab)) (RS.step (by repeat (first | (with_reducible exact Below.refl _ _) | (with_reducible assumption) | ((with_reducible refine Below.alloc ?_ ?_ _); rotate_left; (first | omega | (simp <;> omega))) | ((with_reducible refine Below.setCell ?_ ?_ _); rotate_left; (first | omega | (simp <;> omega))) | (with_reducible refine below_drewN ?_ _) | (with_reducible refine Below.drew ?_) | ((with_reducible refine Below.step (by assumption) ?_ ?_); rotate_left; (first | omega | (simp <;> omega))))) (OwnS.rs ov15ba)) (RS.step (by repeat (first | (with_reducible exact Below.refl _ _) | (with_reducible assumption) | ((with_reducible refine Below.alloc ?_ ?_ _); rotate_left; (first | omega | (simp <;> omega))) | ((with_reducible refine Below.setCell ?_ ?_ _); rotate_left; (first | omega | (simp <;> omega))) | (with_reducible refine below_drewN ?_ _) | (with_reducible refine Below.drew ?_) | ((with_reducible refine Below.step (by assumption) ?_ ?_); rotate_left; (first | omega | (simp <;> omega))))) (OwnS.rs ov15bb))).mono ?_); rintro e v15c ⟨Tv15ca, kv15ca, Tv15cb, kv15cb, rfl, ov15ca, ov15cb, gev15ca, gev15cb, div15c, hbv15c⟩; have hzv15c := hbv15c.size; (try simp at hzv15c); have cv15ca := fun o => hbv15c.cell (p := ⟨w.heap.size, o, none⟩) (by first | omega | (simp <;> omega)); have zv15ca : w.heap.size < v15c.heap.size := (by first | omega | (simp <;> omega)); have ev15ca : ¬ w.heap.size = v15c.heap.size := (by omega); have gv15ca : ¬ v15c.heap.size = w.heap.size := (by omega); have cv15cb := fun o => hbv15c.cell (p := ⟨w.heap.size + 1, o, none⟩) (by first | omega | (simp <;> omega)); have zv15cb : w.heap.size + 1 < v15c.heap.size := (by first | omega | (simp <;> omega)); have ev15cb : ¬ w.heap.size + 1 = v15c.heap.size := (by omega); have gv15cb : ¬ v15c.heap.size = w.heap.size + 1 := (by omega); (try (refine with_box hbv15c (u15.heap.size) ?_ ?_; (first | omega | (simp <;> omega)); intro ncv15c0 nfv15c0 nzv15c0)); (try (refine with_box hbv15c (v15a.heap.size) ?_ ?_; (first | omega | (simp <;> omega)); intro ncv15c1 nfv15c1 nzv15c1)); (try (refine with_box hbv15c (v15b.heap.size) ?_ ?_; (first | omega | (simp <;> omega)); intro ncv15c2 nfv15c2 nzv15c2))))
                                  all_goals
                                    go_wp2_with fail
                                    go_meet
                                    exact ⟨Tv15ca, kv15ca, Tv15cb, kv15cb, _, rfl, Box.mk4 (by first | omega | (simp <;> omega)) (by go_simp) (by go_simp) (by go_simp) (by go_simp), (by first | omega | (simp <;> omega)), (by repeat (first | (with_reducible exact ov15ca) | ((with_reducible refine OwnS.far ?_ (fun x hx => ?_) _); rotate_left; (have h1 := gev15ca x hx; have h2 := OwnS.lt ov15ca x hx; (try simp at h1); first | omega | (simp <;> omega))) | (with_reducible refine OwnS.alloc ?_ _) | (with_reducible refine OwnS.drewN ?_ _) | (with_reducible refine OwnS.drew ?_) | (with_reducible refine OwnS.step (by assumption) ?_))), (fun x hx => by have h1 := gev15ca x hx; (try simp at h1); first | omega | (simp <;> omega)), (fun x hx => by have h1 := gev15ca x hx; have h2 := OwnS.lt ov15ca x hx; (try simp at h1); first | omega | (simp <;> omega)), (by repeat (first | (with_reducible exact ov15cb) | ((with_reducible refine OwnS.far ?_ (fun x hx => ?_) _); rotate_left; (have h1 := gev15cb x hx; have h2 := OwnS.lt ov15cb x hx; (try simp at h1); first | omega | (simp <;> omega))) | (with_reducible refine OwnS.alloc ?_ _) | (with_reducible refine OwnS.drewN ?_ _) | (with_reducible refine OwnS.drew ?_) | (with_reducible refine OwnS.step (by assumption) ?_))), (fun x hx => by have h1 := gev15cb x hx; (try simp at h1); first | omega | (simp <;> omega)), (fun x hx => by have h1 := gev15cb x hx; have h2 := OwnS.lt ov15cb x hx; (try simp at h1); first | omega | (simp <;> omega)), div15c, rfl, (by repeat (first | (with_reducible exact Below.refl _ _) | (with_reducible assumption) | ((with_reducible refine Below.alloc ?_ ?_ _); rotate_left; (first | omega | (simp <;> omega))) | ((with_reducible refine Below.setCell ?_ ?_ _); rotate_left; (first | omega | (simp <;> omega))) | (with_reducible refine below_drewN ?_ _) | (with_reducible refine Below.drew ?_) | ((with_reducible refine Below.step (by assumption) ?_ ?_); rotate_left; (first | omega | (simp <;> omega)))))⟩
                                case rest =>
                                  obtain ⟨u16, rfl⟩ : ∃ u16, u16 = wc := ⟨_, rfl⟩
                                  obtain ⟨A1515a, c1515a, A1515b, c1515b, B1515, rfl, bx1515, bg1515, o1515a, ge1515a, ne15150, o1515b, ge1515b, ne15151, di1515, rfl, hb⟩ := hcut
                                  have lto48a15 := OwnS.lt o48a
                                  have lto48b15 := OwnS.lt o48b
                                  have lbbx4815 := bx48.lt
                                  have lto59a15 := OwnS.lt o59a
                                  have lto59b15 := OwnS.lt o59b
                                  have lbbx5915 := bx59.lt
                                  have lto610a15 := OwnS.lt o610a
                                  have lto610b15 := OwnS.lt o610b
                                  have lbbx61015 := bx610.lt
                                  replace hB := Below.step hb hB hB.size
                                  have hSs := hS.size
                                  replace hS := Below.step hb hS hS.size
                                  replace bx48 := Box.step hb bx48
                                  replace o48a := OwnS.step hb o48a
                                  replace o48b := OwnS.step hb o48b
                                  replace bx59 := Box.step hb bx59
                                  replace o59a := OwnS.step hb o59a
                                  replace o59b := OwnS.step hb o59b
                                  replace bx610 := Box.step hb bx610
                                  replace o610a := OwnS.step hb o610a
                                  replace o610b := OwnS.step hb o610b
                                  clear hb
                                  go_upto_region 32 with fail
                                  go_cut [110] (fun sd wx => sd = .bool false ∧ Below u16.heap.size u16 wx)
                                  case first =>
                                    obtain ⟨zb16a, cb16a0, cb16a1, cb16a2, cb16a3⟩ := bx1515.open4
                                    obtain ⟨zb16b, cb16b0, cb16b1, cb16b2, cb16b3⟩ := (Box.step hS bx36).open4
                                    go_wp2_with fail
                                    refine (L_eqFilm _ (RS.step (by repeat (first | (with_reducible exact Below.refl _ _) | (with_reducible assumption) | ((with_reducible refine Below.alloc ?_ ?_ _); rotate_left; (first | omega | (simp <;> omega))) | ((with_reducible refine Below.setCell ?_ ?_ _); rotate_left; (first | omega | (simp <;> omega))) | (with_reducible refine below_drewN ?_ _) | (with_reducible refine Below.drew ?_) | ((with_reducible refine Below.step (by assumption) ?_ ?_); rotate_left; (first | omega | (simp <;> omega))))) (OwnS.rs o1515a)) (RS.step (by repeat (first | (with_reducible exact Below.refl _ _) | (with_reducible assumption) | ((with_reducible refine Below.alloc ?_ ?_ _); rotate_left; (first | omega | (simp <;> omega))) | ((with_reducible refine Below.setCell ?_ ?_ _); rotate_left; (first | omega | (simp <;> omega))) | (with_reducible refine below_drewN ?_ _) | (with_reducible refine Below.drew ?_) | ((with_reducible refine Below.step (by assumption) ?_ ?_); rotate_left; (first | omega | (simp <;> omega))))) (OwnS.rs o1515b)) (RS.step (by repeat (first | (with_reducible exact Below.refl _ _) | (with_reducible assumption) | ((with_reducible refine Below.alloc ?_ ?_ _); rotate_left; (first | omega | (simp <;> omega))) | ((with_reducible refine Below.setCell ?_ ?_ _); rotate_left; (first | omega | (simp <;> omega))) | (with_reducible refine below_drewN ?_ _) | (with_reducible refine Below.drew ?_) | ((with_reducible refine Below.step (by assumption) ?_ ?_); rotate_left; (first | omega | (simp <;> omega))))) (RS.step hS o36a)) (RS.step (by repeat (first | (with_reducible exact Below.refl _ _) | (with_reducible assumption) | ((with_reducible refine Below.alloc ?_ ?_ _); rotate_left; (first | omega | (simp <;> omega))) | ((with_reducible refine Below.setCell ?_ ?_ _); rotate_left; (first | omega | (simp <;> omega))) | (with_reducible refine below_drewN ?_ _) | (with_reducible refine Below.drew ?_) | ((with_reducible refine Below.step (by assumption) ?_ ?_); rotate_left; (first | omega | (simp <;> omega))))) (RS.step hS o36b))).mono ?_
                                    rintro e v16a ⟨rfl, hbv16a⟩
                                    have hzv16a := hbv16a.size; (try simp at hzv16a)
                                    have cv16aa := fun o => hbv16a.cell (p := ⟨B1515, o, none⟩) (by first | omega | (simp <;> omega))
                                    have zv16aa : B1515 < v16a.heap.size := (by first | omega | (simp <;> omega))
                                    have ev16aa : ¬ B1515 = v16a.heap.size := (by omega)
                                    have gv16aa : ¬ v16a.heap.size = B1515 := (by omega)
                                    have cv16ab := fun o => hbv16a.cell (p := ⟨B36, o, none⟩) (by first | omega | (simp <;> omega))
                                    have zv16ab : B36 < v16a.heap.size := (by first | omega | (simp <;> omega))
                                    have ev16ab : ¬ B36 = v16a.heap.size := (by omega)
                                    have gv16ab : ¬ v16a.heap.size = B36 := (by omega)
                                    go_wp2_with fail
                                    go_meet
                                    exact ⟨rfl, (by repeat (first | (with_reducible exact Below.refl _ _) | (with_reducible assumption) | ((with_reducible refine Below.alloc ?_ ?_ _); rotate_left; (first | omega | (simp <;> omega))) | ((with_reducible refine Below.setCell ?_ ?_ _); rotate_left; (first | omega | (simp <;> omega))) | (with_reducible refine below_drewN ?_ _) | (with_reducible refine Below.drew ?_) | ((with_reducible refine Below.step (by assumption) ?_ ?_); rotate_left; (first | omega | (simp <;> omega)))))⟩
                                  case rest =>
                                    obtain ⟨u17, rfl⟩ : ∃ u17, u17 = wc := ⟨_, rfl⟩
                                    obtain ⟨rfl, hb⟩ := hcut
                                    replace hB := Below.step hb hB hB.size
                                    replace hS := Below.step hb hS hS.size
                                    replace bx48 := Box.step hb bx48
                                    replace o48a := OwnS.step hb o48a
                                    replace o48b := OwnS.step hb o48b
                                    replace bx59 := Box.step hb bx59
                                    replace o59a := OwnS.step hb o59a
                                    replace o59b := OwnS.step hb o59b
                                    replace bx610 := Box.step hb bx610
                                    replace o610a := OwnS.step hb o610a
                                    replace o610b := OwnS.step hb o610b
                                    replace bx1515 := Box.step hb bx1515
                                    replace o1515a := OwnS.step hb o1515a
                                    replace o1515b := OwnS.step hb o1515b
                                    clear hb
                                    go_upto_region 35 with fail
                                    go_cut [14] (fun sd wx => sd = .int .i64 ((1 : Int) + (r0lc.length : Int) + (r0ld.length : Int)) ∧ Below u17.heap.size u17 wx)
                                    case first =>
                                      obtain ⟨zb17a, cb17a0, cb17a1, cb17a2, cb17a3⟩ := bx610.open4
                                      go_wp2_with fail
                                      refine (L_heldFilmG _ o610a (by omega) o610b (by omega) (by omega) (by omega)).mono ?_
                                      rintro e v17a ⟨rfl, hbv17a⟩
                                      have hzv17a := hbv17a.size; (try simp at hzv17a)
                                      have cv17aa := fun o => hbv17a.cell (p := ⟨B610, o, none⟩) (by first | omega | (simp <;> omega))
                                      have zv17aa : B610 < v17a.heap.size := (by first | omega | (simp <;> omega))
                                      have ev17aa : ¬ B610 = v17a.heap.size := (by omega)
                                      have gv17aa : ¬ v17a.heap.size = B610 := (by omega)
                                      go_wp2_with fail
                                      go_meet
                                      exact ⟨rfl, (by repeat (first | (with_reducible exact Below.refl _ _) | (with_reducible assumption) | ((with_reducible refine Below.alloc ?_ ?_ _); rotate_left; (first | omega | (simp <;> omega))) | ((with_reducible refine Below.setCell ?_ ?_ _); rotate_left; (first | omega | (simp <;> omega))) | (with_reducible refine below_drewN ?_ _) | (with_reducible refine Below.drew ?_) | ((with_reducible refine Below.step (by assumption) ?_ ?_); rotate_left; (first | omega | (simp <;> omega)))))⟩
                                    case rest =>
                                      obtain ⟨u18, rfl⟩ : ∃ u18, u18 = wc := ⟨_, rfl⟩
                                      obtain ⟨rfl, hb⟩ := hcut
                                      replace hB := Below.step hb hB hB.size
                                      replace hS := Below.step hb hS hS.size
                                      replace bx48 := Box.step hb bx48
                                      replace o48a := OwnS.step hb o48a
                                      replace o48b := OwnS.step hb o48b
                                      replace bx59 := Box.step hb bx59
                                      replace o59a := OwnS.step hb o59a
                                      replace o59b := OwnS.step hb o59b
                                      replace bx610 := Box.step hb bx610
                                      replace o610a := OwnS.step hb o610a
                                      replace o610b := OwnS.step hb o610b
                                      replace bx1515 := Box.step hb bx1515
                                      replace o1515a := OwnS.step hb o1515a
                                      replace o1515b := OwnS.step hb o1515b
                                      clear hb
                                      have t17 : ¬ (1 : Int) + (r0lc.length : Int) + (r0ld.length : Int) < 0 := by omega
                                      go_wp2
                                      go_ret
                                      exact ⟨rfl, hB⟩
theorem L_ExMergeFilms (y0a y0b : Int) (y0lc : List Int) (y0ld : List Bool) (A0a : Option Addr) (p0a : Nat) (A0b : Option Addr) (p0b : Nat) (y1a y1b : Int) (y1lc : List Int) (y1ld : List Bool) (A1a : Option Addr) (p1a : Nat) (A1b : Option Addr) (p1b : Nat) (w : World)  (h0a : RS w 1 A0a y0lc.length p0a (ints y0lc)) (h0b : RS w 1 A0b y0ld.length p0b (bools y0ld)) (h1a : RS w 1 A1a y1lc.length p1a (ints y1lc)) (h1b : RS w 1 A1b y1ld.length p1b (bools y1ld)) :
    Calls Try.prog 11 #[(vFilm y0a y0b (.slice A0a y0lc.length p0a) (.slice A0b y0ld.length p0b)), (vFilm y1a y1b (.slice A1a y1lc.length p1a) (.slice A1b y1ld.length p1b))] w fun e w' => e = .returned (.bool true) ∧ Below w.heap.size w w' := by
  have hl : (pixM y0lc y1lc y1ld).length = y0lc.length := pixTo_len _ _
  have hl2 : (donM y0ld y1ld).length = y0ld.length := donTo_len _ _
  have hb1 : (if mergeFOk y0a y0b y0lc y0ld y1a y1b y1lc y1ld then pixM y0lc y1lc y1ld else []).length ≤ 1048576 := by
    split
    · next h =>
      unfold mergeFOk at h
      simp only [Bool.and_eq_true] at h
      obtain ⟨_, _, _, _, _, _, _, h2, _⟩ := validFilm_true h.1
      omega
    · simp
  have hb2 : (if mergeFOk y0a y0b y0lc y0ld y1a y1b y1lc y1ld then donM y0ld y1ld else []).length ≤ 1048576 := by
    split
    · next h =>
      unfold mergeFOk at h
      simp only [Bool.and_eq_true] at h
      obtain ⟨_, _, _, _, _, _, _, h2, h3⟩ := validFilm_true h.1
      omega
    · simp
  exact L_ExMergeFilms1 y0a y0b y0lc y0ld A0a p0a A0b p0b y1a y1b y1lc y1ld A1a p1a A1b p1b (if mergeFOk y0a y0b y0lc y0ld y1a y1b y1lc y1ld then y0a else 0) (if mergeFOk y0a y0b y0lc y0ld y1a y1b y1lc y1ld then y0b else 0) _ _ (mergeFOk y0a y0b y0lc y0ld y1a y1b y1lc y1ld) w h0a h0b h1a h1b hb1 hb2 (Lib.hid fun A p B q A' p' B' q' wx a1 a2 a3 a4 => S_MergeFilms wx a1 a2 a3 a4) (Lib.hid fun A p B q A' p' B' q' wx a1 a2 a3 a4 => I_MergeFilms wx a1 a2 a3 a4)
theorem FnExactMergeFilms_walk : LawWalk 11 [96, 96] := by
  intro H enc W base args ds ps hA hval hlt
  obtain ⟨v0, v1, rfl, a0, a1⟩ := args2 hA hval
  obtain ⟨y0a, y0b, A0a, p0a, y0lc, A0b, p0b, y0ld, rfl, h0a, h0b⟩ := a0.film
  obtain ⟨y1a, y1b, A1a, p1a, y1lc, A1b, p1b, y1ld, rfl, h1a, h1b⟩ := a1.film
  exact L_ExMergeFilms y0a y0b y0lc y0ld A0a p0a A0b p0b y1a y1b y1lc y1ld A1a p1a A1b p1b W h0a h0b h1a h1b
end Go.Proofs.Ythfnldjldfkmnaa
