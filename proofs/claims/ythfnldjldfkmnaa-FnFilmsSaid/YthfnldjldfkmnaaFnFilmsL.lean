/- FnFilms: films are merged in any order, and a bucket that is stored twice changes nothing. -/
import Derived.Test.YthfnldjldfkmnaaFilmD
import Derived.Test.YthfnldjldfkmnaaMergeFI
import Derived.Test.YthfnldjldfkmnaaPutBI
import Derived.Test.YthfnldjldfkmnaaBytes
import Derived.Deep.DeepCutAuto
namespace Go.Proofs.Ythfnldjldfkmnaa
open Go.RowKit
set_option linter.unusedVariables false
set_option maxRecDepth 100000
theorem I_mergeN {a b N : Nat} {A B A' B' : Option Addr} {c d c' d' : Nat} {s s' r : List Int} {t t' u : List Bool} (w : World) (hs : s.length = N) (ht : t.length = N) (hs' : s'.length = N) (ht' : t'.length = N) (hm : mergeFOk a b s t a b s' t' = true ∧ pixM s s' t' = r ∧ donM t t' = u) (hr : r.length = N) (hu : u.length = N) (h : RS w 1 A N c (ints s)) (h2 : RS w 1 B N d (bools t)) (h3 : RS w 1 A' N c' (ints s')) (h4 : RS w 1 B' N d' (bools t')) :
    Calls Try.prog 60 #[vFilm a b (.slice A N c) (.slice B N d), vFilm a b (.slice A' N c') (.slice B' N d')] w fun e w' => ∃ (Q1 Q2 : Option Addr) (j1 j2 : Nat), e = .returned (.tuple #[vFilm a b (.slice Q1 N j1) (.slice Q2 N j2), .bool true]) ∧ RS w' 1 Q1 N j1 (ints r) ∧ RS w' 1 Q2 N j2 (bools u) ∧ Below w.heap.size w w' := by
  obtain ⟨e1, e2, e3⟩ := hm
  have := I_MergeFilms (W := a) (H := b) (W' := a) (H' := b) (s := s) (t := t) (s' := s') (t' := t') w (by rw [hs]; exact h) (by rw [ht]; exact h2) (by rw [hs']; exact h3) (by rw [ht']; exact h4)
  rw [e1, e2, e3, hs, ht, hs', ht'] at this
  refine this.mono ?_
  rintro e w' ⟨Q1, j1, Q2, j2, rfl, u1, u2, _, _, _, hb⟩
  simp only [if_true, hr, hu] at u1 u2 ⊢
  exact ⟨Q1, Q2, j1, j2, rfl, u1.rs, u2.rs, hb⟩
theorem I_putOne {a b N : Nat} {A B C : Option Addr} {c d f : Nat} {s r : List Int} {t u : List Bool} (w : World) (hs : s.length = N) (ht : t.length = N) (hN : N ≤ 1000) (hm : putOk a b s t 0 0 1 1 [9] = true ∧ putS a b s t 0 0 1 1 [9] = r ∧ putT a b s t 0 0 1 1 [9] = u) (h : RS w 1 A N c (ints s)) (h2 : RS w 1 B N d (bools t)) (h3 : RS w 1 C 1 f (ints [9])) :
    Calls Try.prog 76 #[vFilm a b (.slice A N c) (.slice B N d), vBucket 0 0 1 1, .slice C 1 f] w fun e w' => ∃ (Q1 Q2 : Option Addr) (j1 j2 : Nat), e = .returned (.tuple #[vFilm a b (.slice Q1 N j1) (.slice Q2 N j2), .bool true]) ∧ RS w' 1 Q1 N j1 (ints r) ∧ RS w' 1 Q2 N j2 (bools u) ∧ Below w.heap.size w w' := by
  obtain ⟨e1, e2, e3⟩ := hm
  have := I_PutBucket (W := a) (H := b) (x := 0) (y := 0) (p := 1) (q := 1) (s := s) (t := t) (l := [9]) (C := C) (f := f) w (by omega) (by omega) (by rw [hs]; exact h) (by rw [ht]; exact h2) h3
  rw [e1, e2, e3, hs, ht] at this
  refine this.mono ?_
  rintro e w' ⟨Q1, j1, Q2, j2, rfl, u1, u2, _, _, _, hb⟩
  exact ⟨Q1, Q2, j1, j2, rfl, u1.rs, u2.rs, hb⟩
theorem I_sameN {a b N : Nat} {A B A' B' : Option Addr} {c d c' d' : Nat} {s : List Int} {t : List Bool} (w : World) (hs : s.length = N) (ht : t.length = N) (h : RS w 1 A N c (ints s)) (h2 : RS w 1 B N d (bools t)) (h3 : RS w 1 A' N c' (ints s)) (h4 : RS w 1 B' N d' (bools t)) :
    Calls Try.prog 78 #[vFilm a b (.slice A N c) (.slice B N d), vFilm a b (.slice A' N c') (.slice B' N d')] w fun e w' => e = .returned (.bool true) ∧ Below w.heap.size w w' := by
  have := I_SameFilm (W := a) (H := b) (W' := a) (H' := b) (l := s) (p := t) (m := s) (q := t) w (by rw [hs]; exact h) (by rw [ht]; exact h2) (by rw [hs]; exact h3) (by rw [ht]; exact h4)
  rw [hs, ht, show sameFilm a b s t a b s t = true by unfold sameFilm; simp] at this
  exact this
set_option maxHeartbeats 16000000 in
theorem L_FnFilms : BytesLaw 14 := by
  intro A c l w h
  have HR := Lib.hid h
  have hlm := h.len
  unfold maxLen at hlm
  clear h
  rcases Nat.lt_or_ge 1048576 l.length with hbig | hsm
  · have hb' : (1048576 : Int) < (l.length : Int) := by omega
    go_enter Try.func14, Try.ntmps14
    go_wp2
    go_ret
    exact ⟨rfl, (by repeat (first | (with_reducible exact Below.refl _ _) | (with_reducible assumption) | ((with_reducible refine Below.alloc ?_ ?_ _); rotate_left; (first | omega | (simp <;> omega))) | ((with_reducible refine Below.setCell ?_ ?_ _); rotate_left; (first | omega | (simp <;> omega))) | (with_reducible refine below_drewN ?_ _) | (with_reducible refine Below.drew ?_) | ((with_reducible refine Below.step (by assumption) ?_ ?_); rotate_left; (first | omega | (simp <;> omega)))))⟩
  have hb' : ¬ (1048576 : Int) < (l.length : Int) := by omega
  go_enter Try.func14, Try.ntmps14
  go_upto_region 3 with fail
  go_cut [3] (fun p3 wx => ∃ (a b n : Nat) (s : List Int) (t : List Bool) (P1 P2 : Option Addr) (P3 P4 B3 : Nat), p3 = .pointer (some ⟨B3, 0, none⟩) ∧ ((2 ≤ a ∧ a ≤ 5) ∧ (2 ≤ b ∧ b ≤ 5) ∧ a * b = n ∧ s.length = n ∧ t.length = n ∧ validFilm a b s t = true) ∧ Box wx B3 [.int .i64 a, .int .i64 b, .slice P1 n P3, .slice P2 n P4] ∧ RS wx 1 P1 n P3 (ints s) ∧ RS wx 1 P2 n P4 (bools t) ∧ Below w.heap.size w wx)
  case first =>
    go_wp2_with fail
    refine (S_makeFilm _ hsm HR.out).mono ?_
    rintro ee w1 ⟨⟨a, b, n, s, t, P1, P2, P3, P4, rfl, ha, hb, hn, hs, ht, hv, r1, r2, g1, g2⟩, hB1⟩
    have hz1 := hB1.size
    have HS := Lib.hid (And.intro ha (And.intro hb (And.intro hn (And.intro hs (And.intro ht hv)))))
    have R1 := Lib.hid r1
    have R2 := Lib.hid r2
    clear ha hb hn hs ht hv r1 r2 g1 g2
    go_wp2_with fail
    go_meet
    exact ⟨a, b, n, s, t, P1, P2, P3, P4, _, rfl, HS.out, Box.mk4 (by first | omega | (simp <;> omega)) (by go_simp) (by go_simp) (by go_simp) (by go_simp), RS.step (by repeat (first | (with_reducible exact Below.refl _ _) | (with_reducible assumption) | ((with_reducible refine Below.alloc ?_ ?_ _); rotate_left; (first | omega | (simp <;> omega))) | ((with_reducible refine Below.setCell ?_ ?_ _); rotate_left; (first | omega | (simp <;> omega))) | (with_reducible refine below_drewN ?_ _) | (with_reducible refine Below.drew ?_) | ((with_reducible refine Below.step (by assumption) ?_ ?_); rotate_left; (first | omega | (simp <;> omega))))) R1.out, RS.step (by repeat (first | (with_reducible exact Below.refl _ _) | (with_reducible assumption) | ((with_reducible refine Below.alloc ?_ ?_ _); rotate_left; (first | omega | (simp <;> omega))) | ((with_reducible refine Below.setCell ?_ ?_ _); rotate_left; (first | omega | (simp <;> omega))) | (with_reducible refine below_drewN ?_ _) | (with_reducible refine Below.drew ?_) | ((with_reducible refine Below.step (by assumption) ?_ ?_); rotate_left; (first | omega | (simp <;> omega))))) R2.out, (by repeat (first | (with_reducible exact Below.refl _ _) | (with_reducible assumption) | ((with_reducible refine Below.alloc ?_ ?_ _); rotate_left; (first | omega | (simp <;> omega))) | ((with_reducible refine Below.setCell ?_ ?_ _); rotate_left; (first | omega | (simp <;> omega))) | (with_reducible refine below_drewN ?_ _) | (with_reducible refine Below.drew ?_) | ((with_reducible refine Below.step (by assumption) ?_ ?_); rotate_left; (first | omega | (simp <;> omega)))))⟩
  case rest =>
    obtain ⟨u3, rfl⟩ : ∃ u3, u3 = wc := ⟨_, rfl⟩
    obtain ⟨a, b, n, s, t, P1, P2, P3, P4, B3, rfl, ⟨⟨a1, a2⟩, ⟨b1, b2⟩, hn, hs, ht, hv⟩, x3, r31, r32, hB⟩ := hcut
    have hab : a * b ≤ 5 * 5 := Nat.mul_le_mul a2 b2
    have hn25 : n ≤ 25 := by omega
    have hn1 : 1 ≤ n := by have := Nat.mul_pos (show 0 < a by omega) (show 0 < b by omega); omega
    have hni : (a : Int) * (b : Int) = (n : Int) := by rw [← hn]; simp
    have HX3 := Lib.hid x3
    have R31 := Lib.hid r31
    have R32 := Lib.hid r32
    have HBu := Lib.hid hB
    have HS := Lib.hid (And.intro hs (And.intro ht hv))
    have HN := Lib.hid hn
    have HM1 := Lib.hid (merge_empty ⟨by omega, by omega⟩ ⟨by omega, by omega⟩ hn hs ht hv)
    have HM2 := Lib.hid (empty_merge ⟨by omega, by omega⟩ ⟨by omega, by omega⟩ hn hs ht hv)
    have HM3 := Lib.hid (self_merge hv)
    have hvz := validFilm_zero (n := n) (a := a) (b := b) ⟨by omega, by omega⟩ ⟨by omega, by omega⟩ hn
    have HP1 := Lib.hid (put_one (s := zerosN n) (t := falsesN n) ⟨by omega, by omega⟩ ⟨by omega, by omega⟩ hn (by simp) (by simp) hvz (fun h0 ht0 => by simp at ht0))
    have hvz1 : validFilm a b ((zerosN n).set 0 9) ((falsesN n).set 0 true) = true := validFilm_of hvz (by simp) (by simp) (filmAll_set (validFilm_all hvz) rfl)
    have HP2 : Hid (putOk a b ((zerosN n).set 0 9) ((falsesN n).set 0 true) 0 0 1 1 [9] = true ∧ putS a b ((zerosN n).set 0 9) ((falsesN n).set 0 true) 0 0 1 1 [9] = (zerosN n).set 0 9 ∧ putT a b ((zerosN n).set 0 9) ((falsesN n).set 0 true) 0 0 1 1 [9] = (falsesN n).set 0 true) := by
      have := put_one (s := (zerosN n).set 0 9) (t := (falsesN n).set 0 true) ⟨by omega, by omega⟩ ⟨by omega, by omega⟩ hn (by simp) (by simp) hvz1 (fun h0 ht0 => by simp)
      rw [List.set_set, List.set_set] at this
      exact this
    have yN : IntKind.i64.wrap ((a : Int) * (b : Int)) = (n : Int) := by rw [hni]; exact IntWalk.i64_in _ (by omega)
    have hmk : ∀ wx : World, (Instr.makeSlice 36 (.int .i64 n) (.int .i64 n)).run Try.prog wx = .ok (.slice (some ⟨wx.heap.size, 0, none⟩) n n) (wx.alloc (.cells (madeCells #[Value.int .i64 0] n) 3)) := by
      intro wx
      have := run_mk (P := Try.prog) 36 3 _ 1 8 Try.underlying36 T.infoInt n (by omega) (by omega) wx
      simp only [Nat.mul_one] at this
      exact this
    have hmk2 : ∀ wx : World, (Instr.makeSlice 94 (.int .i64 n) (.int .i64 n)).run Try.prog wx = .ok (.slice (some ⟨wx.heap.size, 0, none⟩) n n) (wx.alloc (.cells (madeCells #[Value.bool false] n) 4)) := by
      intro wx
      have := run_mk (P := Try.prog) 94 4 _ 1 1 Try.underlying94 T.infoBool n (by omega) (by omega) wx
      simp only [Nat.mul_one] at this
      exact this
    clear hs ht hv hn hni hvz hvz1 x3 r31 r32 hB hab
    go_upto_region 4 with fail
    go_cut [4] (fun p4 wx => ∃ (E1 E2 : Option Addr) (E3 E4 B4 : Nat), p4 = .pointer (some ⟨B4, 0, none⟩) ∧ Box wx B4 [.int .i64 a, .int .i64 b, .slice E1 n E3, .slice E2 n E4] ∧ RS wx 1 E1 n E3 (ints (zerosN n)) ∧ RS wx 1 E2 n E4 (bools (falsesN n)) ∧ Below u3.heap.size u3 wx)
    case first =>
      obtain ⟨z3, c0, c1, c2, c3⟩ := HX3.out.open4
      clear c2 c3
      have nb3 : ¬ B3 = u3.heap.size := by omega
      go_wp2_with fail
      go_region_held3 (fun w' => w'.cell? ⟨B3, 0, none⟩ = some (.int .i64 a) ∧ w'.cell? ⟨B3, 1, none⟩ = some (.int .i64 b))
        (first | ((try dsimp only); refine ⟨?_, ?_⟩ <;> (go_simp; done)) | go_keep)
        (fail)
      all_goals
        go_wp2_with fail
        go_meet
        refine ⟨_, _, _, _, _, rfl, Box.mk4 (by first | omega | (simp <;> omega)) (by go_simp) (by go_simp) (by go_simp; try rfl) (by go_simp; try rfl), (OwnS.some_ (t := 3) ?_ (ints_rep n) (show n ≤ 1048576 by omega)).rs, (OwnS.some_ (t := 4) ?_ (bools_rep n) (show n ≤ 1048576 by omega)).rs, (by repeat (first | (with_reducible exact Below.refl _ _) | (with_reducible assumption) | ((with_reducible refine Below.alloc ?_ ?_ _); rotate_left; (first | omega | (simp <;> omega))) | ((with_reducible refine Below.setCell ?_ ?_ _); rotate_left; (first | omega | (simp <;> omega))) | (with_reducible refine below_drewN ?_ _) | (with_reducible refine Below.drew ?_) | ((with_reducible refine Below.step (by assumption) ?_ ?_); rotate_left; (first | omega | (simp <;> omega)))))⟩
        · rw [← zeros_ints]; (repeat (first | ((with_reducible refine Own.far ?_ ?_ _); rotate_left; (first | omega | (simp <;> omega))) | (with_reducible refine Own.drew ?_) | (with_reducible refine Own.drewN ?_ _) | ((with_reducible refine Own.at_new ?_); (first | (simp; done) | omega | (simp <;> omega))) | (with_reducible refine Own.alloc ?_ _)))
        · rw [← zeros_bools]; (repeat (first | ((with_reducible refine Own.far ?_ ?_ _); rotate_left; (first | omega | (simp <;> omega))) | (with_reducible refine Own.drew ?_) | (with_reducible refine Own.drewN ?_ _) | ((with_reducible refine Own.at_new ?_); (first | (simp; done) | omega | (simp <;> omega))) | (with_reducible refine Own.alloc ?_ _)))
    case rest =>
      obtain ⟨u4, rfl⟩ : ∃ u4, u4 = wc := ⟨_, rfl⟩
      obtain ⟨E1, E2, E3, E4, B4, rfl, x4, r41, r42, hbu4⟩ := hcut
      have HX4 := Lib.hid x4
      have R41 := Lib.hid r41
      have R42 := Lib.hid r42
      clear x4 r41 r42 hmk hmk2
      replace R31 := Lib.hid (RS.step hbu4 R31.out)
      replace R32 := Lib.hid (RS.step hbu4 R32.out)
      replace HX3 := Lib.hid (Box.step hbu4 HX3.out)
      replace HBu := Lib.hid (Below.trans HBu.out (hbu4.mono HBu.out.size))
      clear hbu4
      go_upto_region 5 with fail
      go_cut [5, 6] (fun p q wx => ∃ (F1 F2 : Option Addr) (F3 F4 B : Nat), p = .pointer (some ⟨B, 0, none⟩) ∧ q = .bool true ∧ Box wx B [.int .i64 a, .int .i64 b, .slice F1 n F3, .slice F2 n F4] ∧ RS wx 1 F1 n F3 (ints s) ∧ RS wx 1 F2 n F4 (bools t) ∧ Below u4.heap.size u4 wx)
      case first =>
        obtain ⟨z3, c0, c1, c2, c3⟩ := HX3.out.open4
        obtain ⟨z4, d0, d1, d2, d3⟩ := HX4.out.open4
        go_wp2_with fail
        refine (I_mergeN _ HS.out.1 HS.out.2.1 (zeros_len n) (falses_len n) HM1.out HS.out.1 HS.out.2.1 R31.out R32.out R41.out R42.out).mono ?_
        rintro ee w1 ⟨F1, F2, F3, F4, rfl, r1, r2, hB1⟩
        have hz1 := hB1.size
        have Q1 := Lib.hid r1
        have Q2 := Lib.hid r2
        clear r1 r2
        go_wp2_with fail
        go_meet
        exact ⟨F1, F2, F3, F4, _, rfl, rfl, Box.mk4 (by first | omega | (simp <;> omega)) (by go_simp) (by go_simp) (by go_simp) (by go_simp), RS.step (by repeat (first | (with_reducible exact Below.refl _ _) | (with_reducible assumption) | ((with_reducible refine Below.alloc ?_ ?_ _); rotate_left; (first | omega | (simp <;> omega))) | ((with_reducible refine Below.setCell ?_ ?_ _); rotate_left; (first | omega | (simp <;> omega))) | (with_reducible refine below_drewN ?_ _) | (with_reducible refine Below.drew ?_) | ((with_reducible refine Below.step (by assumption) ?_ ?_); rotate_left; (first | omega | (simp <;> omega))))) Q1.out, RS.step (by repeat (first | (with_reducible exact Below.refl _ _) | (with_reducible assumption) | ((with_reducible refine Below.alloc ?_ ?_ _); rotate_left; (first | omega | (simp <;> omega))) | ((with_reducible refine Below.setCell ?_ ?_ _); rotate_left; (first | omega | (simp <;> omega))) | (with_reducible refine below_drewN ?_ _) | (with_reducible refine Below.drew ?_) | ((with_reducible refine Below.step (by assumption) ?_ ?_); rotate_left; (first | omega | (simp <;> omega))))) Q2.out, (by repeat (first | (with_reducible exact Below.refl _ _) | (with_reducible assumption) | ((with_reducible refine Below.alloc ?_ ?_ _); rotate_left; (first | omega | (simp <;> omega))) | ((with_reducible refine Below.setCell ?_ ?_ _); rotate_left; (first | omega | (simp <;> omega))) | (with_reducible refine below_drewN ?_ _) | (with_reducible refine Below.drew ?_) | ((with_reducible refine Below.step (by assumption) ?_ ?_); rotate_left; (first | omega | (simp <;> omega)))))⟩
      case rest =>
        obtain ⟨u5, rfl⟩ : ∃ u5, u5 = wc := ⟨_, rfl⟩
        obtain ⟨F1, F2, F3, F4, B5, rfl, rfl, x5, r51, r52, hbu5⟩ := hcut
        have HX5 := Lib.hid x5
        have R51 := Lib.hid r51
        have R52 := Lib.hid r52
        clear x5 r51 r52
        replace R31 := Lib.hid (RS.step hbu5 R31.out)
        replace R32 := Lib.hid (RS.step hbu5 R32.out)
        replace HX3 := Lib.hid (Box.step hbu5 HX3.out)
        replace R41 := Lib.hid (RS.step hbu5 R41.out)
        replace R42 := Lib.hid (RS.step hbu5 R42.out)
        replace HX4 := Lib.hid (Box.step hbu5 HX4.out)
        replace HBu := Lib.hid (Below.trans HBu.out (hbu5.mono HBu.out.size))
        clear hbu5
        go_upto_region 6 with fail
        go_cut [7, 8] (fun p q wx => ∃ (G1 G2 : Option Addr) (G3 G4 B : Nat), p = .pointer (some ⟨B, 0, none⟩) ∧ q = .bool true ∧ Box wx B [.int .i64 a, .int .i64 b, .slice G1 n G3, .slice G2 n G4] ∧ RS wx 1 G1 n G3 (ints s) ∧ RS wx 1 G2 n G4 (bools t) ∧ Below u5.heap.size u5 wx)
        case first =>
          obtain ⟨z3, c0, c1, c2, c3⟩ := HX3.out.open4
          obtain ⟨z4, d0, d1, d2, d3⟩ := HX4.out.open4
          go_wp2_with fail
          refine (I_mergeN _ (zeros_len n) (falses_len n) HS.out.1 HS.out.2.1 HM2.out HS.out.1 HS.out.2.1 R41.out R42.out R31.out R32.out).mono ?_
          rintro ee w1 ⟨G1, G2, G3, G4, rfl, r1, r2, hB1⟩
          have hz1 := hB1.size
          have Q1 := Lib.hid r1
          have Q2 := Lib.hid r2
          clear r1 r2
          go_wp2_with fail
          go_meet
          exact ⟨G1, G2, G3, G4, _, rfl, rfl, Box.mk4 (by first | omega | (simp <;> omega)) (by go_simp) (by go_simp) (by go_simp) (by go_simp), RS.step (by repeat (first | (with_reducible exact Below.refl _ _) | (with_reducible assumption) | ((with_reducible refine Below.alloc ?_ ?_ _); rotate_left; (first | omega | (simp <;> omega))) | ((with_reducible refine Below.setCell ?_ ?_ _); rotate_left; (first | omega | (simp <;> omega))) | (with_reducible refine below_drewN ?_ _) | (with_reducible refine Below.drew ?_) | ((with_reducible refine Below.step (by assumption) ?_ ?_); rotate_left; (first | omega | (simp <;> omega))))) Q1.out, RS.step (by repeat (first | (with_reducible exact Below.refl _ _) | (with_reducible assumption) | ((with_reducible refine Below.alloc ?_ ?_ _); rotate_left; (first | omega | (simp <;> omega))) | ((with_reducible refine Below.setCell ?_ ?_ _); rotate_left; (first | omega | (simp <;> omega))) | (with_reducible refine below_drewN ?_ _) | (with_reducible refine Below.drew ?_) | ((with_reducible refine Below.step (by assumption) ?_ ?_); rotate_left; (first | omega | (simp <;> omega))))) Q2.out, (by repeat (first | (with_reducible exact Below.refl _ _) | (with_reducible assumption) | ((with_reducible refine Below.alloc ?_ ?_ _); rotate_left; (first | omega | (simp <;> omega))) | ((with_reducible refine Below.setCell ?_ ?_ _); rotate_left; (first | omega | (simp <;> omega))) | (with_reducible refine below_drewN ?_ _) | (with_reducible refine Below.drew ?_) | ((with_reducible refine Below.step (by assumption) ?_ ?_); rotate_left; (first | omega | (simp <;> omega)))))⟩
        case rest =>
          obtain ⟨u6, rfl⟩ : ∃ u6, u6 = wc := ⟨_, rfl⟩
          obtain ⟨G1, G2, G3, G4, B7, rfl, rfl, x7, r71, r72, hbu6⟩ := hcut
          have HX7 := Lib.hid x7
          have R71 := Lib.hid r71
          have R72 := Lib.hid r72
          clear x7 r71 r72
          replace R31 := Lib.hid (RS.step hbu6 R31.out)
          replace R32 := Lib.hid (RS.step hbu6 R32.out)
          replace HX3 := Lib.hid (Box.step hbu6 HX3.out)
          replace R41 := Lib.hid (RS.step hbu6 R41.out)
          replace R42 := Lib.hid (RS.step hbu6 R42.out)
          replace HX4 := Lib.hid (Box.step hbu6 HX4.out)
          replace R51 := Lib.hid (RS.step hbu6 R51.out)
          replace R52 := Lib.hid (RS.step hbu6 R52.out)
          replace HX5 := Lib.hid (Box.step hbu6 HX5.out)
          replace HBu := Lib.hid (Below.trans HBu.out (hbu6.mono HBu.out.size))
          clear hbu6
          go_upto_region 7 with fail
          go_cut [9, 10] (fun p q wx => ∃ (H1 H2 : Option Addr) (H3 H4 B : Nat), p = .pointer (some ⟨B, 0, none⟩) ∧ q = .bool true ∧ Box wx B [.int .i64 a, .int .i64 b, .slice H1 n H3, .slice H2 n H4] ∧ RS wx 1 H1 n H3 (ints s) ∧ RS wx 1 H2 n H4 (bools t) ∧ Below u6.heap.size u6 wx)
          case first =>
            obtain ⟨z3, c0, c1, c2, c3⟩ := HX3.out.open4
            obtain ⟨z4, d0, d1, d2, d3⟩ := HX4.out.open4
            go_wp2_with fail
            refine (I_mergeN _ HS.out.1 HS.out.2.1 HS.out.1 HS.out.2.1 HM3.out HS.out.1 HS.out.2.1 R31.out R32.out R31.out R32.out).mono ?_
            rintro ee w1 ⟨H1, H2, H3, H4, rfl, r1, r2, hB1⟩
            have hz1 := hB1.size
            have Q1 := Lib.hid r1
            have Q2 := Lib.hid r2
            clear r1 r2
            go_wp2_with fail
            go_meet
            exact ⟨H1, H2, H3, H4, _, rfl, rfl, Box.mk4 (by first | omega | (simp <;> omega)) (by go_simp) (by go_simp) (by go_simp) (by go_simp), RS.step (by repeat (first | (with_reducible exact Below.refl _ _) | (with_reducible assumption) | ((with_reducible refine Below.alloc ?_ ?_ _); rotate_left; (first | omega | (simp <;> omega))) | ((with_reducible refine Below.setCell ?_ ?_ _); rotate_left; (first | omega | (simp <;> omega))) | (with_reducible refine below_drewN ?_ _) | (with_reducible refine Below.drew ?_) | ((with_reducible refine Below.step (by assumption) ?_ ?_); rotate_left; (first | omega | (simp <;> omega))))) Q1.out, RS.step (by repeat (first | (with_reducible exact Below.refl _ _) | (with_reducible assumption) | ((with_reducible refine Below.alloc ?_ ?_ _); rotate_left; (first | omega | (simp <;> omega))) | ((with_reducible refine Below.setCell ?_ ?_ _); rotate_left; (first | omega | (simp <;> omega))) | (with_reducible refine below_drewN ?_ _) | (with_reducible refine Below.drew ?_) | ((with_reducible refine Below.step (by assumption) ?_ ?_); rotate_left; (first | omega | (simp <;> omega))))) Q2.out, (by repeat (first | (with_reducible exact Below.refl _ _) | (with_reducible assumption) | ((with_reducible refine Below.alloc ?_ ?_ _); rotate_left; (first | omega | (simp <;> omega))) | ((with_reducible refine Below.setCell ?_ ?_ _); rotate_left; (first | omega | (simp <;> omega))) | (with_reducible refine below_drewN ?_ _) | (with_reducible refine Below.drew ?_) | ((with_reducible refine Below.step (by assumption) ?_ ?_); rotate_left; (first | omega | (simp <;> omega)))))⟩
          case rest =>
            obtain ⟨u7, rfl⟩ : ∃ u7, u7 = wc := ⟨_, rfl⟩
            obtain ⟨H1, H2, H3, H4, B9, rfl, rfl, x9, r91, r92, hbu7⟩ := hcut
            have HX9 := Lib.hid x9
            have R91 := Lib.hid r91
            have R92 := Lib.hid r92
            clear x9 r91 r92
            replace R31 := Lib.hid (RS.step hbu7 R31.out)
            replace R32 := Lib.hid (RS.step hbu7 R32.out)
            replace HX3 := Lib.hid (Box.step hbu7 HX3.out)
            replace R41 := Lib.hid (RS.step hbu7 R41.out)
            replace R42 := Lib.hid (RS.step hbu7 R42.out)
            replace HX4 := Lib.hid (Box.step hbu7 HX4.out)
            replace R51 := Lib.hid (RS.step hbu7 R51.out)
            replace R52 := Lib.hid (RS.step hbu7 R52.out)
            replace HX5 := Lib.hid (Box.step hbu7 HX5.out)
            replace R71 := Lib.hid (RS.step hbu7 R71.out)
            replace R72 := Lib.hid (RS.step hbu7 R72.out)
            replace HX7 := Lib.hid (Box.step hbu7 HX7.out)
            replace HBu := Lib.hid (Below.trans HBu.out (hbu7.mono HBu.out.size))
            clear hbu7
            go_upto_region 8 with fail
            go_cut [11, 12] (fun p q wx => ∃ (K1 K2 : Option Addr) (K3 K4 B : Nat), p = .pointer (some ⟨B, 0, none⟩) ∧ q = .bool true ∧ Box wx B [.int .i64 a, .int .i64 b, .slice K1 n K3, .slice K2 n K4] ∧ RS wx 1 K1 n K3 (ints ((zerosN n).set 0 9)) ∧ RS wx 1 K2 n K4 (bools ((falsesN n).set 0 true)) ∧ Below u7.heap.size u7 wx)
            case first =>
              obtain ⟨z3, c0, c1, c2, c3⟩ := HX4.out.open4
              go_wp2_with fail
              refine (I_putOne _ (zeros_len n) (falses_len n) (by omega) HP1.out (RS.step (by repeat (first | (with_reducible exact Below.refl _ _) | (with_reducible assumption) | ((with_reducible refine Below.alloc ?_ ?_ _); rotate_left; (first | omega | (simp <;> omega))) | ((with_reducible refine Below.setCell ?_ ?_ _); rotate_left; (first | omega | (simp <;> omega))) | (with_reducible refine below_drewN ?_ _) | (with_reducible refine Below.drew ?_) | ((with_reducible refine Below.step (by assumption) ?_ ?_); rotate_left; (first | omega | (simp <;> omega))))) R41.out) (RS.step (by repeat (first | (with_reducible exact Below.refl _ _) | (with_reducible assumption) | ((with_reducible refine Below.alloc ?_ ?_ _); rotate_left; (first | omega | (simp <;> omega))) | ((with_reducible refine Below.setCell ?_ ?_ _); rotate_left; (first | omega | (simp <;> omega))) | (with_reducible refine below_drewN ?_ _) | (with_reducible refine Below.drew ?_) | ((with_reducible refine Below.step (by assumption) ?_ ?_); rotate_left; (first | omega | (simp <;> omega))))) R42.out) (Grow.rs (base := 0) (n := 1) (c := 1) (by repeat (first | (with_reducible refine Grow.drewN ?_ _) | (with_reducible refine Grow.drew ?_) | (refine Grow.lit_at (by simp) (by rfl) (Nat.zero_le _) (by unfold maxLen; omega)))))).mono ?_
              rintro ee w1 ⟨K1, K2, K3, K4, rfl, r1, r2, hB1⟩
              have hz1 := hB1.size
              (try simp at hz1)
              have Q1 := Lib.hid r1
              have Q2 := Lib.hid r2
              clear r1 r2
              go_wp2_with fail
              go_meet
              exact ⟨K1, K2, K3, K4, _, rfl, rfl, Box.mk4 (by first | omega | (simp <;> omega)) (by go_simp) (by go_simp) (by go_simp) (by go_simp), RS.step (by repeat (first | (with_reducible exact Below.refl _ _) | (with_reducible assumption) | ((with_reducible refine Below.alloc ?_ ?_ _); rotate_left; (first | omega | (simp <;> omega))) | ((with_reducible refine Below.setCell ?_ ?_ _); rotate_left; (first | omega | (simp <;> omega))) | (with_reducible refine below_drewN ?_ _) | (with_reducible refine Below.drew ?_) | ((with_reducible refine Below.step (by assumption) ?_ ?_); rotate_left; (first | omega | (simp <;> omega))))) Q1.out, RS.step (by repeat (first | (with_reducible exact Below.refl _ _) | (with_reducible assumption) | ((with_reducible refine Below.alloc ?_ ?_ _); rotate_left; (first | omega | (simp <;> omega))) | ((with_reducible refine Below.setCell ?_ ?_ _); rotate_left; (first | omega | (simp <;> omega))) | (with_reducible refine below_drewN ?_ _) | (with_reducible refine Below.drew ?_) | ((with_reducible refine Below.step (by assumption) ?_ ?_); rotate_left; (first | omega | (simp <;> omega))))) Q2.out, (by repeat (first | (with_reducible exact Below.refl _ _) | (with_reducible assumption) | ((with_reducible refine Below.alloc ?_ ?_ _); rotate_left; (first | omega | (simp <;> omega))) | ((with_reducible refine Below.setCell ?_ ?_ _); rotate_left; (first | omega | (simp <;> omega))) | (with_reducible refine below_drewN ?_ _) | (with_reducible refine Below.drew ?_) | ((with_reducible refine Below.step (by assumption) ?_ ?_); rotate_left; (first | omega | (simp <;> omega)))))⟩
            case rest =>
              obtain ⟨u8, rfl⟩ : ∃ u8, u8 = wc := ⟨_, rfl⟩
              obtain ⟨K1, K2, K3, K4, B11, rfl, rfl, x11, r111, r112, hbu8⟩ := hcut
              have HX11 := Lib.hid x11
              have R111 := Lib.hid r111
              have R112 := Lib.hid r112
              clear x11 r111 r112
              replace R31 := Lib.hid (RS.step hbu8 R31.out)
              replace R32 := Lib.hid (RS.step hbu8 R32.out)
              replace HX3 := Lib.hid (Box.step hbu8 HX3.out)
              replace R41 := Lib.hid (RS.step hbu8 R41.out)
              replace R42 := Lib.hid (RS.step hbu8 R42.out)
              replace HX4 := Lib.hid (Box.step hbu8 HX4.out)
              replace R51 := Lib.hid (RS.step hbu8 R51.out)
              replace R52 := Lib.hid (RS.step hbu8 R52.out)
              replace HX5 := Lib.hid (Box.step hbu8 HX5.out)
              replace R71 := Lib.hid (RS.step hbu8 R71.out)
              replace R72 := Lib.hid (RS.step hbu8 R72.out)
              replace HX7 := Lib.hid (Box.step hbu8 HX7.out)
              replace R91 := Lib.hid (RS.step hbu8 R91.out)
              replace R92 := Lib.hid (RS.step hbu8 R92.out)
              replace HX9 := Lib.hid (Box.step hbu8 HX9.out)
              replace HBu := Lib.hid (Below.trans HBu.out (hbu8.mono HBu.out.size))
              clear hbu8
              go_upto_region 9 with fail
              go_cut [13, 14] (fun p q wx => ∃ (M1 M2 : Option Addr) (M3 M4 B : Nat), p = .pointer (some ⟨B, 0, none⟩) ∧ q = .bool true ∧ Box wx B [.int .i64 a, .int .i64 b, .slice M1 n M3, .slice M2 n M4] ∧ RS wx 1 M1 n M3 (ints ((zerosN n).set 0 9)) ∧ RS wx 1 M2 n M4 (bools ((falsesN n).set 0 true)) ∧ Below u8.heap.size u8 wx)
              case first =>
                obtain ⟨z3, c0, c1, c2, c3⟩ := HX11.out.open4
                go_wp2_with fail
                refine (I_putOne _ (by simp) (by simp) (by omega) HP2.out (RS.step (by repeat (first | (with_reducible exact Below.refl _ _) | (with_reducible assumption) | ((with_reducible refine Below.alloc ?_ ?_ _); rotate_left; (first | omega | (simp <;> omega))) | ((with_reducible refine Below.setCell ?_ ?_ _); rotate_left; (first | omega | (simp <;> omega))) | (with_reducible refine below_drewN ?_ _) | (with_reducible refine Below.drew ?_) | ((with_reducible refine Below.step (by assumption) ?_ ?_); rotate_left; (first | omega | (simp <;> omega))))) R111.out) (RS.step (by repeat (first | (with_reducible exact Below.refl _ _) | (with_reducible assumption) | ((with_reducible refine Below.alloc ?_ ?_ _); rotate_left; (first | omega | (simp <;> omega))) | ((with_reducible refine Below.setCell ?_ ?_ _); rotate_left; (first | omega | (simp <;> omega))) | (with_reducible refine below_drewN ?_ _) | (with_reducible refine Below.drew ?_) | ((with_reducible refine Below.step (by assumption) ?_ ?_); rotate_left; (first | omega | (simp <;> omega))))) R112.out) (Grow.rs (base := 0) (n := 1) (c := 1) (by repeat (first | (with_reducible refine Grow.drewN ?_ _) | (with_reducible refine Grow.drew ?_) | (refine Grow.lit_at (by simp) (by rfl) (Nat.zero_le _) (by unfold maxLen; omega)))))).mono ?_
                rintro ee w1 ⟨M1, M2, M3, M4, rfl, r1, r2, hB1⟩
                have hz1 := hB1.size
                (try simp at hz1)
                have Q1 := Lib.hid r1
                have Q2 := Lib.hid r2
                clear r1 r2
                go_wp2_with fail
                go_meet
                exact ⟨M1, M2, M3, M4, _, rfl, rfl, Box.mk4 (by first | omega | (simp <;> omega)) (by go_simp) (by go_simp) (by go_simp) (by go_simp), RS.step (by repeat (first | (with_reducible exact Below.refl _ _) | (with_reducible assumption) | ((with_reducible refine Below.alloc ?_ ?_ _); rotate_left; (first | omega | (simp <;> omega))) | ((with_reducible refine Below.setCell ?_ ?_ _); rotate_left; (first | omega | (simp <;> omega))) | (with_reducible refine below_drewN ?_ _) | (with_reducible refine Below.drew ?_) | ((with_reducible refine Below.step (by assumption) ?_ ?_); rotate_left; (first | omega | (simp <;> omega))))) Q1.out, RS.step (by repeat (first | (with_reducible exact Below.refl _ _) | (with_reducible assumption) | ((with_reducible refine Below.alloc ?_ ?_ _); rotate_left; (first | omega | (simp <;> omega))) | ((with_reducible refine Below.setCell ?_ ?_ _); rotate_left; (first | omega | (simp <;> omega))) | (with_reducible refine below_drewN ?_ _) | (with_reducible refine Below.drew ?_) | ((with_reducible refine Below.step (by assumption) ?_ ?_); rotate_left; (first | omega | (simp <;> omega))))) Q2.out, (by repeat (first | (with_reducible exact Below.refl _ _) | (with_reducible assumption) | ((with_reducible refine Below.alloc ?_ ?_ _); rotate_left; (first | omega | (simp <;> omega))) | ((with_reducible refine Below.setCell ?_ ?_ _); rotate_left; (first | omega | (simp <;> omega))) | (with_reducible refine below_drewN ?_ _) | (with_reducible refine Below.drew ?_) | ((with_reducible refine Below.step (by assumption) ?_ ?_); rotate_left; (first | omega | (simp <;> omega)))))⟩
              case rest =>
                obtain ⟨u9, rfl⟩ : ∃ u9, u9 = wc := ⟨_, rfl⟩
                obtain ⟨M1, M2, M3, M4, B13, rfl, rfl, x13, r131, r132, hbu9⟩ := hcut
                have HX13 := Lib.hid x13
                have R131 := Lib.hid r131
                have R132 := Lib.hid r132
                clear x13 r131 r132
                replace R31 := Lib.hid (RS.step hbu9 R31.out)
                replace R32 := Lib.hid (RS.step hbu9 R32.out)
                replace HX3 := Lib.hid (Box.step hbu9 HX3.out)
                replace R41 := Lib.hid (RS.step hbu9 R41.out)
                replace R42 := Lib.hid (RS.step hbu9 R42.out)
                replace HX4 := Lib.hid (Box.step hbu9 HX4.out)
                replace R51 := Lib.hid (RS.step hbu9 R51.out)
                replace R52 := Lib.hid (RS.step hbu9 R52.out)
                replace HX5 := Lib.hid (Box.step hbu9 HX5.out)
                replace R71 := Lib.hid (RS.step hbu9 R71.out)
                replace R72 := Lib.hid (RS.step hbu9 R72.out)
                replace HX7 := Lib.hid (Box.step hbu9 HX7.out)
                replace R91 := Lib.hid (RS.step hbu9 R91.out)
                replace R92 := Lib.hid (RS.step hbu9 R92.out)
                replace HX9 := Lib.hid (Box.step hbu9 HX9.out)
                replace R111 := Lib.hid (RS.step hbu9 R111.out)
                replace R112 := Lib.hid (RS.step hbu9 R112.out)
                replace HX11 := Lib.hid (Box.step hbu9 HX11.out)
                replace HBu := Lib.hid (Below.trans HBu.out (hbu9.mono HBu.out.size))
                clear hbu9
                have HSa : Hid (∀ wx, Below u9.heap.size u9 wx → Calls Try.prog 78 #[vFilm a b (.slice F1 n F3) (.slice F2 n F4), vFilm a b (.slice P1 n P3) (.slice P2 n P4)] wx fun e w' => e = .returned (.bool true) ∧ Below wx.heap.size wx w') := fun wx hw => I_sameN (s := s) (t := t) wx HS.out.1 HS.out.2.1 (RS.step hw R51.out) (RS.step hw R52.out) (RS.step hw R31.out) (RS.step hw R32.out)
                have HSb : Hid (∀ wx, Below u9.heap.size u9 wx → Calls Try.prog 78 #[vFilm a b (.slice G1 n G3) (.slice G2 n G4), vFilm a b (.slice P1 n P3) (.slice P2 n P4)] wx fun e w' => e = .returned (.bool true) ∧ Below wx.heap.size wx w') := fun wx hw => I_sameN (s := s) (t := t) wx HS.out.1 HS.out.2.1 (RS.step hw R71.out) (RS.step hw R72.out) (RS.step hw R31.out) (RS.step hw R32.out)
                have HSc : Hid (∀ wx, Below u9.heap.size u9 wx → Calls Try.prog 78 #[vFilm a b (.slice H1 n H3) (.slice H2 n H4), vFilm a b (.slice P1 n P3) (.slice P2 n P4)] wx fun e w' => e = .returned (.bool true) ∧ Below wx.heap.size wx w') := fun wx hw => I_sameN (s := s) (t := t) wx HS.out.1 HS.out.2.1 (RS.step hw R91.out) (RS.step hw R92.out) (RS.step hw R31.out) (RS.step hw R32.out)
                have HSd : Hid (∀ wx, Below u9.heap.size u9 wx → Calls Try.prog 78 #[vFilm a b (.slice K1 n K3) (.slice K2 n K4), vFilm a b (.slice M1 n M3) (.slice M2 n M4)] wx fun e w' => e = .returned (.bool true) ∧ Below wx.heap.size wx w') := fun wx hw => I_sameN (s := (zerosN n).set 0 9) (t := (falsesN n).set 0 true) wx (by simp) (by simp) (RS.step hw R111.out) (RS.step hw R112.out) (RS.step hw R131.out) (RS.step hw R132.out)
                obtain ⟨z3, c30, c31, c32, c33⟩ := HX3.out.open4
                obtain ⟨z5, c50, c51, c52, c53⟩ := HX5.out.open4
                obtain ⟨z7, c70, c71, c72, c73⟩ := HX7.out.open4
                obtain ⟨z9, c90, c91, c92, c93⟩ := HX9.out.open4
                obtain ⟨z11, c110, c111, c112, c113⟩ := HX11.out.open4
                obtain ⟨z13, c130, c131, c132, c133⟩ := HX13.out.open4
                go_wp2_with (first | (go_at_call 78; (with_reducible refine (HSa.out _ (Below.refl _ _)).mono ?_); rintro ee ma ⟨rfl, hba⟩; have hza := hba.size; have ka3 := fun o => hba.cell (p := ⟨B3, o, none⟩) (by first | omega | (simp <;> omega)); have ka5 := fun o => hba.cell (p := ⟨B5, o, none⟩) (by first | omega | (simp <;> omega)); have ka7 := fun o => hba.cell (p := ⟨B7, o, none⟩) (by first | omega | (simp <;> omega)); have ka9 := fun o => hba.cell (p := ⟨B9, o, none⟩) (by first | omega | (simp <;> omega)); have ka11 := fun o => hba.cell (p := ⟨B11, o, none⟩) (by first | omega | (simp <;> omega)); have ka13 := fun o => hba.cell (p := ⟨B13, o, none⟩) (by first | omega | (simp <;> omega)); have hBa : Below u9.heap.size u9 ma := hba) | (go_at_call 78; (with_reducible refine (HSb.out _ hBa).mono ?_); rintro ee mb ⟨rfl, hbb⟩; have hzb := hbb.size; have kb3 := fun o => hbb.cell (p := ⟨B3, o, none⟩) (by first | omega | (simp <;> omega)); have kb5 := fun o => hbb.cell (p := ⟨B5, o, none⟩) (by first | omega | (simp <;> omega)); have kb7 := fun o => hbb.cell (p := ⟨B7, o, none⟩) (by first | omega | (simp <;> omega)); have kb9 := fun o => hbb.cell (p := ⟨B9, o, none⟩) (by first | omega | (simp <;> omega)); have kb11 := fun o => hbb.cell (p := ⟨B11, o, none⟩) (by first | omega | (simp <;> omega)); have kb13 := fun o => hbb.cell (p := ⟨B13, o, none⟩) (by first | omega | (simp <;> omega)); have hBb : Below u9.heap.size u9 mb := (Below.trans hBa (hbb.mono hBa.size))) | (go_at_call 78; (with_reducible refine (HSc.out _ hBb).mono ?_); rintro ee mc ⟨rfl, hbc⟩; have hzc := hbc.size; have kc3 := fun o => hbc.cell (p := ⟨B3, o, none⟩) (by first | omega | (simp <;> omega)); have kc5 := fun o => hbc.cell (p := ⟨B5, o, none⟩) (by first | omega | (simp <;> omega)); have kc7 := fun o => hbc.cell (p := ⟨B7, o, none⟩) (by first | omega | (simp <;> omega)); have kc9 := fun o => hbc.cell (p := ⟨B9, o, none⟩) (by first | omega | (simp <;> omega)); have kc11 := fun o => hbc.cell (p := ⟨B11, o, none⟩) (by first | omega | (simp <;> omega)); have kc13 := fun o => hbc.cell (p := ⟨B13, o, none⟩) (by first | omega | (simp <;> omega)); have hBc : Below u9.heap.size u9 mc := (Below.trans hBb (hbc.mono hBb.size))) | (go_at_call 78; (with_reducible refine (HSd.out _ hBc).mono ?_); rintro ee md ⟨rfl, hbd⟩; have hzd := hbd.size; have kd3 := fun o => hbd.cell (p := ⟨B3, o, none⟩) (by first | omega | (simp <;> omega)); have kd5 := fun o => hbd.cell (p := ⟨B5, o, none⟩) (by first | omega | (simp <;> omega)); have kd7 := fun o => hbd.cell (p := ⟨B7, o, none⟩) (by first | omega | (simp <;> omega)); have kd9 := fun o => hbd.cell (p := ⟨B9, o, none⟩) (by first | omega | (simp <;> omega)); have kd11 := fun o => hbd.cell (p := ⟨B11, o, none⟩) (by first | omega | (simp <;> omega)); have kd13 := fun o => hbd.cell (p := ⟨B13, o, none⟩) (by first | omega | (simp <;> omega)); have hBd : Below u9.heap.size u9 md := (Below.trans hBc (hbd.mono hBc.size))) | fail)
                go_ret
                exact ⟨rfl, Below.trans HBu.out (hBd.mono HBu.out.size)⟩
set_option maxRecDepth 100000 in
theorem FnFilms_walk : LawWalk 14 [35] := bytes_walk L_FnFilms
end Go.Proofs.Ythfnldjldfkmnaa
