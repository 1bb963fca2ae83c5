/- MADE BY PROGRAM (genput.py). PutBucket of the program. -/
import Derived.Test.YthpanpedoeghoaaPutP
import Derived.Test.YthpanpedoeghoaaPut
import Derived.Deep.RegionHeld3
set_option linter.unusedVariables false
set_option linter.unusedSimpArgs false
set_option linter.unnecessarySimpa false
namespace Go.Proofs.Ythpanpedoeghoaa
open Go.RowKit
set_option linter.unusedVariables false
set_option maxRecDepth 100000
set_option maxHeartbeats 16000000 in
theorem I_PutBucket {W H x y p q : Int} {A B C : Option Addr} {c d f : Nat} {s : List Int} {t : List Bool} {l : List Int} (w : World) (hs : s.length ≤ 1048576) (ht : t.length ≤ 1048576) (h : RS w 1 A s.length c (ints s)) (h2 : RS w 1 B t.length d (bools t)) (h3 : RS w 1 C l.length f (ints l)) :
    Calls Try.prog 10 #[vFilm W H (.slice A s.length c) (.slice B t.length d), vBucket x y p q, .slice C l.length f] w (PutR W H s.length t.length (putOk W H s t x y p q l) (putS W H s t x y p q l) (putT W H s t x y p q l) w) := by
  have n1 := h.len
  have n2 := h2.len
  have n3 := h3.len
  unfold maxLen at n1 n2 n3
  have H1 := Lib.hid h
  have H2 := Lib.hid h2
  have H3 := Lib.hid h3
  clear h h2 h3
  have HVN : Hid (putOk W H s t x y p q l = false → PutR W H s.length t.length (putOk W H s t x y p q l) (putS W H s t x y p q l) (putT W H s t x y p q l) w = PutR W H s.length t.length false s t w) := fun hf => by rw [putS, putT, hf]; rfl
  rcases put_ways W H s t x y p q l with ⟨q1, q5⟩ | ⟨q1, q2, q5⟩ | ⟨q1, q2, q3, q5⟩ | ⟨q1, q2, q3, q5⟩
  case inl =>
    have HV := Lib.hid (HVN.out q5.out)
    go_enter Try.func10, Try.ntmps10
    go_wp2_with fail
    refine (I_IsValidFilm _ (RS.step (by repeat (first | (with_reducible exact Below.refl _ _) | (with_reducible assumption) | ((with_reducible refine Below.alloc ?_ ?_ _); rotate_left; (first | omega | (simp <;> omega))) | ((with_reducible refine Below.setCell ?_ ?_ _); rotate_left; (first | omega | (simp <;> omega))) | (with_reducible refine below_drewN ?_ _) | (with_reducible refine Below.drew ?_) | ((with_reducible refine Below.step (by assumption) ?_ ?_); rotate_left; (first | omega | (simp <;> omega))))) H1.out) (RS.step (by repeat (first | (with_reducible exact Below.refl _ _) | (with_reducible assumption) | ((with_reducible refine Below.alloc ?_ ?_ _); rotate_left; (first | omega | (simp <;> omega))) | ((with_reducible refine Below.setCell ?_ ?_ _); rotate_left; (first | omega | (simp <;> omega))) | (with_reducible refine below_drewN ?_ _) | (with_reducible refine Below.drew ?_) | ((with_reducible refine Below.step (by assumption) ?_ ?_); rotate_left; (first | omega | (simp <;> omega))))) H2.out)).mono ?_
    rintro e w1 ⟨rfl, hbw1⟩
    have hzw1 := hbw1.size
    (try simp at hzw1)
    obtain ⟨ccw1, ffw1⟩ := bcell (hbw1.mono (show w.heap.size + 3 ≤ _ by first | omega | (simp <;> omega)))
    have zw10 : w.heap.size < w1.heap.size := (by omega); have zw11 : w.heap.size + 1 < w1.heap.size := (by omega); have zw12 : w.heap.size + 1 + 1 < w1.heap.size := (by omega)
    have hBw1 : Below w.heap.size w w1 := (by repeat (first | (with_reducible exact Below.refl _ _) | (with_reducible assumption) | ((with_reducible refine Below.alloc ?_ ?_ _); rotate_left; (first | omega | (simp <;> omega))) | ((with_reducible refine Below.setCell ?_ ?_ _); rotate_left; (first | omega | (simp <;> omega))) | (with_reducible refine below_drewN ?_ _) | (with_reducible refine Below.drew ?_) | ((with_reducible refine Below.step (by assumption) ?_ ?_); rotate_left; (first | omega | (simp <;> omega)))))
    go_wp2_with fail
    refine (I_copyFilm _ hs ht (RS.step hBw1 H1.out) (RS.step hBw1 H2.out)).mono ?_
    rintro e w9 ⟨P1, j1, P2, j2, rfl, u1, u2, ge1, ge2, hd, hb9⟩
    have hz9 := hb9.size
    obtain ⟨cc9, ff9⟩ := bcell (hb9.mono (show w.heap.size + 3 ≤ _ by first | omega | (simp <;> omega)))
    (try simp at hz9)
    have zz9 : w.heap.size + 1 + 1 < w9.heap.size := by omega
    have hB9 : Below w.heap.size w w9 := Below.trans hBw1 (hb9.mono hBw1.size)
    go_wp2
    rw [HV.out]
    refine bodyPost_ret (v := .tuple #[vFilm W H (.slice P1 s.length j1) (.slice P2 t.length j2), .bool false]) (by simp [results, Try.results10, go_sem, *]) rfl ⟨P1, j1, P2, j2, rfl, ?_, ?_, (fun x hx => by have := ge1 x hx; (try simp at this); omega), (fun x hx => by have := ge2 x hx; (try simp at this); omega), hd, (by repeat (first | (with_reducible exact Below.refl _ _) | (with_reducible exact hB9) | (with_reducible assumption) | ((with_reducible refine Below.alloc ?_ ?_ _); rotate_left; (first | omega | (simp <;> omega))) | ((with_reducible refine Below.setCell ?_ ?_ _); rotate_left; (first | omega | (simp <;> omega))) | (with_reducible refine below_drewN ?_ _) | (with_reducible refine Below.drew ?_) | ((with_reducible refine Below.step (by assumption) ?_ ?_); rotate_left; (first | omega | (simp <;> omega)))))⟩
    · exact (by repeat (first | (with_reducible exact u1) | (with_reducible refine OwnS.drew ?_) | (with_reducible refine OwnS.drewN ?_ _) | ((with_reducible refine OwnS.far ?_ ?_ _); rotate_left; (intro x hx; have := ge1 x hx; (try simp at this); simp; omega))))
    · exact (by repeat (first | (with_reducible exact u2) | (with_reducible refine OwnS.drew ?_) | (with_reducible refine OwnS.drewN ?_ _) | ((with_reducible refine OwnS.far ?_ ?_ _); rotate_left; (intro x hx; have := ge2 x hx; (try simp at this); simp; omega))))
  case inr.inl =>
    have HV := Lib.hid (HVN.out q5.out)
    obtain ⟨⟨hW1, hW2⟩, ⟨hH1, hH2⟩, _⟩ := validFilm_small q1
    go_enter Try.func10, Try.ntmps10
    go_wp2_with fail
    refine (I_IsValidFilm _ (RS.step (by repeat (first | (with_reducible exact Below.refl _ _) | (with_reducible assumption) | ((with_reducible refine Below.alloc ?_ ?_ _); rotate_left; (first | omega | (simp <;> omega))) | ((with_reducible refine Below.setCell ?_ ?_ _); rotate_left; (first | omega | (simp <;> omega))) | (with_reducible refine below_drewN ?_ _) | (with_reducible refine Below.drew ?_) | ((with_reducible refine Below.step (by assumption) ?_ ?_); rotate_left; (first | omega | (simp <;> omega))))) H1.out) (RS.step (by repeat (first | (with_reducible exact Below.refl _ _) | (with_reducible assumption) | ((with_reducible refine Below.alloc ?_ ?_ _); rotate_left; (first | omega | (simp <;> omega))) | ((with_reducible refine Below.setCell ?_ ?_ _); rotate_left; (first | omega | (simp <;> omega))) | (with_reducible refine below_drewN ?_ _) | (with_reducible refine Below.drew ?_) | ((with_reducible refine Below.step (by assumption) ?_ ?_); rotate_left; (first | omega | (simp <;> omega))))) H2.out)).mono ?_
    rintro e w1 ⟨rfl, hbw1⟩
    have hzw1 := hbw1.size
    (try simp at hzw1)
    obtain ⟨ccw1, ffw1⟩ := bcell (hbw1.mono (show w.heap.size + 3 ≤ _ by first | omega | (simp <;> omega)))
    have zw10 : w.heap.size < w1.heap.size := (by omega); have zw11 : w.heap.size + 1 < w1.heap.size := (by omega); have zw12 : w.heap.size + 1 + 1 < w1.heap.size := (by omega)
    have hBw1 : Below w.heap.size w w1 := (by repeat (first | (with_reducible exact Below.refl _ _) | (with_reducible assumption) | ((with_reducible refine Below.alloc ?_ ?_ _); rotate_left; (first | omega | (simp <;> omega))) | ((with_reducible refine Below.setCell ?_ ?_ _); rotate_left; (first | omega | (simp <;> omega))) | (with_reducible refine below_drewN ?_ _) | (with_reducible refine Below.drew ?_) | ((with_reducible refine Below.step (by assumption) ?_ ?_); rotate_left; (first | omega | (simp <;> omega)))))
    go_wp2_with fail
    refine (I_inside _ ⟨hW1, hW2⟩ ⟨hH1, hH2⟩).mono ?_
    rintro e w2 ⟨rfl, hbw2⟩
    have hzw2 := hbw2.size
    (try simp at hzw2)
    obtain ⟨ccw2, ffw2⟩ := bcell (hbw2.mono (show w.heap.size + 3 ≤ _ by first | omega | (simp <;> omega)))
    have zw20 : w.heap.size < w2.heap.size := (by omega); have zw21 : w.heap.size + 1 < w2.heap.size := (by omega); have zw22 : w.heap.size + 1 + 1 < w2.heap.size := (by omega)
    have hBw2 : Below w.heap.size w w2 := (by repeat (first | (with_reducible exact Below.refl _ _) | (with_reducible assumption) | ((with_reducible refine Below.alloc ?_ ?_ _); rotate_left; (first | omega | (simp <;> omega))) | ((with_reducible refine Below.setCell ?_ ?_ _); rotate_left; (first | omega | (simp <;> omega))) | (with_reducible refine below_drewN ?_ _) | (with_reducible refine Below.drew ?_) | ((with_reducible refine Below.step (by assumption) ?_ ?_); rotate_left; (first | omega | (simp <;> omega)))))
    go_wp2_with fail
    refine (I_copyFilm _ hs ht (RS.step hBw2 H1.out) (RS.step hBw2 H2.out)).mono ?_
    rintro e w9 ⟨P1, j1, P2, j2, rfl, u1, u2, ge1, ge2, hd, hb9⟩
    have hz9 := hb9.size
    obtain ⟨cc9, ff9⟩ := bcell (hb9.mono (show w.heap.size + 3 ≤ _ by first | omega | (simp <;> omega)))
    (try simp at hz9)
    have zz9 : w.heap.size + 1 + 1 < w9.heap.size := by omega
    have hB9 : Below w.heap.size w w9 := Below.trans hBw2 (hb9.mono hBw2.size)
    go_wp2
    rw [HV.out]
    refine bodyPost_ret (v := .tuple #[vFilm W H (.slice P1 s.length j1) (.slice P2 t.length j2), .bool false]) (by simp [results, Try.results10, go_sem, *]) rfl ⟨P1, j1, P2, j2, rfl, ?_, ?_, (fun x hx => by have := ge1 x hx; (try simp at this); omega), (fun x hx => by have := ge2 x hx; (try simp at this); omega), hd, (by repeat (first | (with_reducible exact Below.refl _ _) | (with_reducible exact hB9) | (with_reducible assumption) | ((with_reducible refine Below.alloc ?_ ?_ _); rotate_left; (first | omega | (simp <;> omega))) | ((with_reducible refine Below.setCell ?_ ?_ _); rotate_left; (first | omega | (simp <;> omega))) | (with_reducible refine below_drewN ?_ _) | (with_reducible refine Below.drew ?_) | ((with_reducible refine Below.step (by assumption) ?_ ?_); rotate_left; (first | omega | (simp <;> omega)))))⟩
    · exact (by repeat (first | (with_reducible exact u1) | (with_reducible refine OwnS.drew ?_) | (with_reducible refine OwnS.drewN ?_ _) | ((with_reducible refine OwnS.far ?_ ?_ _); rotate_left; (intro x hx; have := ge1 x hx; (try simp at this); simp; omega))))
    · exact (by repeat (first | (with_reducible exact u2) | (with_reducible refine OwnS.drew ?_) | (with_reducible refine OwnS.drewN ?_ _) | ((with_reducible refine OwnS.far ?_ ?_ _); rotate_left; (intro x hx; have := ge2 x hx; (try simp at this); simp; omega))))
  case inr.inr.inl =>
    have HV := Lib.hid (HVN.out q5.out)
    obtain ⟨⟨hW1, hW2⟩, ⟨hH1, hH2⟩, h144⟩ := validFilm_small q1
    obtain ⟨a, b, xn, yn, pn, qn, rfl, rfl, rfl, rfl, rfl, rfl, ⟨a1, a2⟩, ⟨b1, b2⟩, hxp, hyq, hp1, hq1, hsl, htl⟩ := film_nat q1 q2
    have hr : (pn : Int) * (qn : Int) = ((pn * qn : Nat) : Int) := by simp
    have hpq : pn * qn ≤ 12 * 12 := Nat.mul_le_mul (by omega) (by omega)
    have hpq1 : 1 ≤ pn * qn := Nat.mul_pos hp1 hq1
    rw [hr] at q3
    have hpw : IntKind.i64.wrap ((pn : Int) * (qn : Int)) = ((pn * qn : Nat) : Int) := by rw [hr]; exact IntWalk.i64_in _ (by omega)
    have HN := Lib.hid (show s.length = a * b ∧ t.length = a * b from ⟨hsl, htl⟩)
    clear hr hsl htl
    have hne : ((l.length : Int) != ((pn * qn : Nat) : Int)) = true := by rw [bne_iff_ne]; exact q3
    generalize pn * qn = N at *
    clear q3
    go_enter Try.func10, Try.ntmps10
    go_wp2_with fail
    refine (I_IsValidFilm _ (RS.step (by repeat (first | (with_reducible exact Below.refl _ _) | (with_reducible assumption) | ((with_reducible refine Below.alloc ?_ ?_ _); rotate_left; (first | omega | (simp <;> omega))) | ((with_reducible refine Below.setCell ?_ ?_ _); rotate_left; (first | omega | (simp <;> omega))) | (with_reducible refine below_drewN ?_ _) | (with_reducible refine Below.drew ?_) | ((with_reducible refine Below.step (by assumption) ?_ ?_); rotate_left; (first | omega | (simp <;> omega))))) H1.out) (RS.step (by repeat (first | (with_reducible exact Below.refl _ _) | (with_reducible assumption) | ((with_reducible refine Below.alloc ?_ ?_ _); rotate_left; (first | omega | (simp <;> omega))) | ((with_reducible refine Below.setCell ?_ ?_ _); rotate_left; (first | omega | (simp <;> omega))) | (with_reducible refine below_drewN ?_ _) | (with_reducible refine Below.drew ?_) | ((with_reducible refine Below.step (by assumption) ?_ ?_); rotate_left; (first | omega | (simp <;> omega))))) H2.out)).mono ?_
    rintro e w1 ⟨rfl, hbw1⟩
    have hzw1 := hbw1.size
    (try simp at hzw1)
    obtain ⟨ccw1, ffw1⟩ := bcell (hbw1.mono (show w.heap.size + 3 ≤ _ by first | omega | (simp <;> omega)))
    have zw10 : w.heap.size < w1.heap.size := (by omega); have zw11 : w.heap.size + 1 < w1.heap.size := (by omega); have zw12 : w.heap.size + 1 + 1 < w1.heap.size := (by omega)
    have hBw1 : Below w.heap.size w w1 := (by repeat (first | (with_reducible exact Below.refl _ _) | (with_reducible assumption) | ((with_reducible refine Below.alloc ?_ ?_ _); rotate_left; (first | omega | (simp <;> omega))) | ((with_reducible refine Below.setCell ?_ ?_ _); rotate_left; (first | omega | (simp <;> omega))) | (with_reducible refine below_drewN ?_ _) | (with_reducible refine Below.drew ?_) | ((with_reducible refine Below.step (by assumption) ?_ ?_); rotate_left; (first | omega | (simp <;> omega)))))
    go_wp2_with fail
    refine (I_inside _ ⟨hW1, hW2⟩ ⟨hH1, hH2⟩).mono ?_
    rintro e w2 ⟨rfl, hbw2⟩
    have hzw2 := hbw2.size
    (try simp at hzw2)
    obtain ⟨ccw2, ffw2⟩ := bcell (hbw2.mono (show w.heap.size + 3 ≤ _ by first | omega | (simp <;> omega)))
    have zw20 : w.heap.size < w2.heap.size := (by omega); have zw21 : w.heap.size + 1 < w2.heap.size := (by omega); have zw22 : w.heap.size + 1 + 1 < w2.heap.size := (by omega)
    have hBw2 : Below w.heap.size w w2 := (by repeat (first | (with_reducible exact Below.refl _ _) | (with_reducible assumption) | ((with_reducible refine Below.alloc ?_ ?_ _); rotate_left; (first | omega | (simp <;> omega))) | ((with_reducible refine Below.setCell ?_ ?_ _); rotate_left; (first | omega | (simp <;> omega))) | (with_reducible refine below_drewN ?_ _) | (with_reducible refine Below.drew ?_) | ((with_reducible refine Below.step (by assumption) ?_ ?_); rotate_left; (first | omega | (simp <;> omega)))))
    go_wp2_with fail
    refine (I_copyFilm _ hs ht (RS.step hBw2 H1.out) (RS.step hBw2 H2.out)).mono ?_
    rintro e w9 ⟨P1, j1, P2, j2, rfl, u1, u2, ge1, ge2, hd, hb9⟩
    have hz9 := hb9.size
    obtain ⟨cc9, ff9⟩ := bcell (hb9.mono (show w.heap.size + 3 ≤ _ by first | omega | (simp <;> omega)))
    (try simp at hz9)
    have zz9 : w.heap.size + 1 + 1 < w9.heap.size := by omega
    have hB9 : Below w.heap.size w w9 := Below.trans hBw2 (hb9.mono hBw2.size)
    go_wp2
    rw [HV.out]
    refine bodyPost_ret (v := .tuple #[vFilm a b (.slice P1 s.length j1) (.slice P2 t.length j2), .bool false]) (by simp [results, Try.results10, go_sem, *]) rfl ⟨P1, j1, P2, j2, rfl, ?_, ?_, (fun x hx => by have := ge1 x hx; (try simp at this); omega), (fun x hx => by have := ge2 x hx; (try simp at this); omega), hd, (by repeat (first | (with_reducible exact Below.refl _ _) | (with_reducible exact hB9) | (with_reducible assumption) | ((with_reducible refine Below.alloc ?_ ?_ _); rotate_left; (first | omega | (simp <;> omega))) | ((with_reducible refine Below.setCell ?_ ?_ _); rotate_left; (first | omega | (simp <;> omega))) | (with_reducible refine below_drewN ?_ _) | (with_reducible refine Below.drew ?_) | ((with_reducible refine Below.step (by assumption) ?_ ?_); rotate_left; (first | omega | (simp <;> omega)))))⟩
    · exact (by repeat (first | (with_reducible exact u1) | (with_reducible refine OwnS.drew ?_) | (with_reducible refine OwnS.drewN ?_ _) | ((with_reducible refine OwnS.far ?_ ?_ _); rotate_left; (intro x hx; have := ge1 x hx; (try simp at this); simp; omega))))
    · exact (by repeat (first | (with_reducible exact u2) | (with_reducible refine OwnS.drew ?_) | (with_reducible refine OwnS.drewN ?_ _) | ((with_reducible refine OwnS.far ?_ ?_ _); rotate_left; (intro x hx; have := ge2 x hx; (try simp at this); simp; omega))))
  case inr.inr.inr =>
    obtain ⟨⟨hW1, hW2⟩, ⟨hH1, hH2⟩, h144⟩ := validFilm_small q1
    obtain ⟨a, b, xn, yn, pn, qn, rfl, rfl, rfl, rfl, rfl, rfl, ⟨a1, a2⟩, ⟨b1, b2⟩, hxp, hyq, hp1, hq1, hsl, htl⟩ := film_nat q1 q2
    have hr : (pn : Int) * (qn : Int) = ((pn * qn : Nat) : Int) := by simp
    have hpq : pn * qn ≤ 12 * 12 := Nat.mul_le_mul (by omega) (by omega)
    have hpq1 : 1 ≤ pn * qn := Nat.mul_pos hp1 hq1
    rw [hr] at q3
    have hpw : IntKind.i64.wrap ((pn : Int) * (qn : Int)) = ((pn * qn : Nat) : Int) := by rw [hr]; exact IntWalk.i64_in _ (by omega)
    have HN := Lib.hid (show s.length = a * b ∧ t.length = a * b from ⟨hsl, htl⟩)
    clear hr hsl htl
    have hne : ((l.length : Int) != ((pn * qn : Nat) : Int)) = false := by rw [bne_eq_false_iff_eq]; exact q3
    have HLN : Hid (l.length = pn * qn) := by show l.length = pn * qn; omega
    have hll : l.length ≤ 144 := by omega
    obtain ⟨N, hNN⟩ : ∃ N, pn * qn = N := ⟨_, rfl⟩
    have hL0 : 0 < l.length := by omega
    rw [hNN] at hpw hne
    have HPIX : Hid (∀ wx : World, Calls Try.prog 22 #[vBucket xn yn pn qn] wx (MadeRow 54 2 l.length (pxs xn yn pn l.length) wx)) := by
      intro wx
      have := I_pixels (x := xn) (y := yn) (p := pn) (q := qn) wx (by omega) (by omega) ⟨hp1, by omega⟩ (by omega)
      rwa [Nat.mul_comm qn pn, ← HLN.out] at this
    clear q3 hpq hpq1 hNN
    cases hai : allIn l 0 256
    case false =>
      have HV := Lib.hid (HVN.out (by rw [q5.out, hai]; rfl))
      go_enter Try.func10, Try.ntmps10
      go_wp2_with fail
      refine (I_IsValidFilm _ (RS.step (by repeat (first | (with_reducible exact Below.refl _ _) | (with_reducible assumption) | ((with_reducible refine Below.alloc ?_ ?_ _); rotate_left; (first | omega | (simp <;> omega))) | ((with_reducible refine Below.setCell ?_ ?_ _); rotate_left; (first | omega | (simp <;> omega))) | (with_reducible refine below_drewN ?_ _) | (with_reducible refine Below.drew ?_) | ((with_reducible refine Below.step (by assumption) ?_ ?_); rotate_left; (first | omega | (simp <;> omega))))) H1.out) (RS.step (by repeat (first | (with_reducible exact Below.refl _ _) | (with_reducible assumption) | ((with_reducible refine Below.alloc ?_ ?_ _); rotate_left; (first | omega | (simp <;> omega))) | ((with_reducible refine Below.setCell ?_ ?_ _); rotate_left; (first | omega | (simp <;> omega))) | (with_reducible refine below_drewN ?_ _) | (with_reducible refine Below.drew ?_) | ((with_reducible refine Below.step (by assumption) ?_ ?_); rotate_left; (first | omega | (simp <;> omega))))) H2.out)).mono ?_
      rintro e w1 ⟨rfl, hbw1⟩
      have hzw1 := hbw1.size
      (try simp at hzw1)
      obtain ⟨ccw1, ffw1⟩ := bcell (hbw1.mono (show w.heap.size + 3 ≤ _ by first | omega | (simp <;> omega)))
      have zw10 : w.heap.size < w1.heap.size := (by omega); have zw11 : w.heap.size + 1 < w1.heap.size := (by omega); have zw12 : w.heap.size + 1 + 1 < w1.heap.size := (by omega)
      have hBw1 : Below w.heap.size w w1 := (by repeat (first | (with_reducible exact Below.refl _ _) | (with_reducible assumption) | ((with_reducible refine Below.alloc ?_ ?_ _); rotate_left; (first | omega | (simp <;> omega))) | ((with_reducible refine Below.setCell ?_ ?_ _); rotate_left; (first | omega | (simp <;> omega))) | (with_reducible refine below_drewN ?_ _) | (with_reducible refine Below.drew ?_) | ((with_reducible refine Below.step (by assumption) ?_ ?_); rotate_left; (first | omega | (simp <;> omega)))))
      go_wp2_with fail
      refine (I_inside _ ⟨hW1, hW2⟩ ⟨hH1, hH2⟩).mono ?_
      rintro e w2 ⟨rfl, hbw2⟩
      have hzw2 := hbw2.size
      (try simp at hzw2)
      obtain ⟨ccw2, ffw2⟩ := bcell (hbw2.mono (show w.heap.size + 3 ≤ _ by first | omega | (simp <;> omega)))
      have zw20 : w.heap.size < w2.heap.size := (by omega); have zw21 : w.heap.size + 1 < w2.heap.size := (by omega); have zw22 : w.heap.size + 1 + 1 < w2.heap.size := (by omega)
      have hBw2 : Below w.heap.size w w2 := (by repeat (first | (with_reducible exact Below.refl _ _) | (with_reducible assumption) | ((with_reducible refine Below.alloc ?_ ?_ _); rotate_left; (first | omega | (simp <;> omega))) | ((with_reducible refine Below.setCell ?_ ?_ _); rotate_left; (first | omega | (simp <;> omega))) | (with_reducible refine below_drewN ?_ _) | (with_reducible refine Below.drew ?_) | ((with_reducible refine Below.step (by assumption) ?_ ?_); rotate_left; (first | omega | (simp <;> omega)))))
      go_wp2_with fail
      refine (I_allWithin _ _ l 0 256 _ (RS.step hBw2 H3.out)).mono ?_
      rintro e w' ⟨rfl, rfl⟩
      go_wp2_with fail
      refine (I_copyFilm _ hs ht (RS.step hBw2 H1.out) (RS.step hBw2 H2.out)).mono ?_
      rintro e w9 ⟨P1, j1, P2, j2, rfl, u1, u2, ge1, ge2, hd, hb9⟩
      have hz9 := hb9.size
      obtain ⟨cc9, ff9⟩ := bcell (hb9.mono (show w.heap.size + 3 ≤ _ by first | omega | (simp <;> omega)))
      (try simp at hz9)
      have zz9 : w.heap.size + 1 + 1 < w9.heap.size := by omega
      have hB9 : Below w.heap.size w w9 := Below.trans hBw2 (hb9.mono hBw2.size)
      go_wp2
      rw [HV.out]
      refine bodyPost_ret (v := .tuple #[vFilm a b (.slice P1 s.length j1) (.slice P2 t.length j2), .bool false]) (by simp [results, Try.results10, go_sem, *]) rfl ⟨P1, j1, P2, j2, rfl, ?_, ?_, (fun x hx => by have := ge1 x hx; (try simp at this); omega), (fun x hx => by have := ge2 x hx; (try simp at this); omega), hd, (by repeat (first | (with_reducible exact Below.refl _ _) | (with_reducible exact hB9) | (with_reducible assumption) | ((with_reducible refine Below.alloc ?_ ?_ _); rotate_left; (first | omega | (simp <;> omega))) | ((with_reducible refine Below.setCell ?_ ?_ _); rotate_left; (first | omega | (simp <;> omega))) | (with_reducible refine below_drewN ?_ _) | (with_reducible refine Below.drew ?_) | ((with_reducible refine Below.step (by assumption) ?_ ?_); rotate_left; (first | omega | (simp <;> omega)))))⟩
      · exact (by repeat (first | (with_reducible exact u1) | (with_reducible refine OwnS.drew ?_) | (with_reducible refine OwnS.drewN ?_ _) | ((with_reducible refine OwnS.far ?_ ?_ _); rotate_left; (intro x hx; have := ge1 x hx; (try simp at this); simp; omega))))
      · exact (by repeat (first | (with_reducible exact u2) | (with_reducible refine OwnS.drew ?_) | (with_reducible refine OwnS.drewN ?_ _) | ((with_reducible refine OwnS.far ?_ ?_ _); rotate_left; (intro x hx; have := ge2 x hx; (try simp at this); simp; omega))))
    case true =>
      have HAI : Hid ((allIn l 0 256 && okTo (bAt a xn yn pn) always (atI l) s t l.length) = okTo (bAt a xn yn pn) always (atI l) s t l.length) := by show _ = _; rw [hai]; rfl
      go_enter Try.func10, Try.ntmps10
      go_wp2_with fail
      refine (I_IsValidFilm _ (RS.step (by repeat (first | (with_reducible exact Below.refl _ _) | (with_reducible assumption) | ((with_reducible refine Below.alloc ?_ ?_ _); rotate_left; (first | omega | (simp <;> omega))) | ((with_reducible refine Below.setCell ?_ ?_ _); rotate_left; (first | omega | (simp <;> omega))) | (with_reducible refine below_drewN ?_ _) | (with_reducible refine Below.drew ?_) | ((with_reducible refine Below.step (by assumption) ?_ ?_); rotate_left; (first | omega | (simp <;> omega))))) H1.out) (RS.step (by repeat (first | (with_reducible exact Below.refl _ _) | (with_reducible assumption) | ((with_reducible refine Below.alloc ?_ ?_ _); rotate_left; (first | omega | (simp <;> omega))) | ((with_reducible refine Below.setCell ?_ ?_ _); rotate_left; (first | omega | (simp <;> omega))) | (with_reducible refine below_drewN ?_ _) | (with_reducible refine Below.drew ?_) | ((with_reducible refine Below.step (by assumption) ?_ ?_); rotate_left; (first | omega | (simp <;> omega))))) H2.out)).mono ?_
      rintro e w1 ⟨rfl, hbw1⟩
      have hzw1 := hbw1.size
      (try simp at hzw1)
      obtain ⟨ccw1, ffw1⟩ := bcell (hbw1.mono (show w.heap.size + 3 ≤ _ by first | omega | (simp <;> omega)))
      have zw10 : w.heap.size < w1.heap.size := (by omega); have zw11 : w.heap.size + 1 < w1.heap.size := (by omega); have zw12 : w.heap.size + 1 + 1 < w1.heap.size := (by omega)
      have hBw1 : Below w.heap.size w w1 := (by repeat (first | (with_reducible exact Below.refl _ _) | (with_reducible assumption) | ((with_reducible refine Below.alloc ?_ ?_ _); rotate_left; (first | omega | (simp <;> omega))) | ((with_reducible refine Below.setCell ?_ ?_ _); rotate_left; (first | omega | (simp <;> omega))) | (with_reducible refine below_drewN ?_ _) | (with_reducible refine Below.drew ?_) | ((with_reducible refine Below.step (by assumption) ?_ ?_); rotate_left; (first | omega | (simp <;> omega)))))
      go_wp2_with fail
      refine (I_inside _ ⟨hW1, hW2⟩ ⟨hH1, hH2⟩).mono ?_
      rintro e w2 ⟨rfl, hbw2⟩
      have hzw2 := hbw2.size
      (try simp at hzw2)
      obtain ⟨ccw2, ffw2⟩ := bcell (hbw2.mono (show w.heap.size + 3 ≤ _ by first | omega | (simp <;> omega)))
      have zw20 : w.heap.size < w2.heap.size := (by omega); have zw21 : w.heap.size + 1 < w2.heap.size := (by omega); have zw22 : w.heap.size + 1 + 1 < w2.heap.size := (by omega)
      have hBw2 : Below w.heap.size w w2 := (by repeat (first | (with_reducible exact Below.refl _ _) | (with_reducible assumption) | ((with_reducible refine Below.alloc ?_ ?_ _); rotate_left; (first | omega | (simp <;> omega))) | ((with_reducible refine Below.setCell ?_ ?_ _); rotate_left; (first | omega | (simp <;> omega))) | (with_reducible refine below_drewN ?_ _) | (with_reducible refine Below.drew ?_) | ((with_reducible refine Below.step (by assumption) ?_ ?_); rotate_left; (first | omega | (simp <;> omega)))))
      go_wp2_with fail
      refine (I_allWithin _ _ l 0 256 _ (RS.step hBw2 H3.out)).mono ?_
      rintro e w' ⟨rfl, rfl⟩
      go_wp2_with fail
      refine (I_copyFilm _ hs ht (RS.step hBw2 H1.out) (RS.step hBw2 H2.out)).mono ?_
      rintro e w3 ⟨P1, k1, P2, k2, rfl, o1, o2, ge1, ge2, hd, hbw3⟩
      have hzw3 := hbw3.size
      (try simp at hzw3)
      obtain ⟨ccw3, ffw3⟩ := bcell (hbw3.mono (show w.heap.size + 3 ≤ _ by first | omega | (simp <;> omega)))
      have zw30 : w.heap.size < w3.heap.size := (by omega); have zw31 : w.heap.size + 1 < w3.heap.size := (by omega); have zw32 : w.heap.size + 1 + 1 < w3.heap.size := (by omega)
      have hBw3 : Below w.heap.size w w3 := (by repeat (first | (with_reducible exact Below.refl _ _) | (with_reducible assumption) | ((with_reducible refine Below.alloc ?_ ?_ _); rotate_left; (first | omega | (simp <;> omega))) | ((with_reducible refine Below.setCell ?_ ?_ _); rotate_left; (first | omega | (simp <;> omega))) | (with_reducible refine below_drewN ?_ _) | (with_reducible refine Below.drew ?_) | ((with_reducible refine Below.step (by assumption) ?_ ?_); rotate_left; (first | omega | (simp <;> omega)))))
      have hsp : 0 < s.length := by rw [HN.out.1]; exact Nat.mul_pos a1 b1
      obtain ⟨g1, d1, rfl, o1, k1a, k1b⟩ := OwnS.block o1 hsp
      obtain ⟨g2, d2, rfl, o2, k2a, k2b⟩ := OwnS.block o2 (by rw [HN.out.2]; exact Nat.mul_pos a1 b1)
      have hg1 := ge1 g1 (by simp [gOf])
      have hg2 := ge2 g2 (by simp [gOf])
      have hg12 : g1 ≠ g2 := fun e => hd g1 (by simp [gOf]) (by simp [gOf, e])
      have hl1 := o1.lt
      have hl2 := o2.lt
      clear ge1 ge2 hd
      unfold maxLen at k1b k2b
      go_wp2_with fail
      refine (HPIX.out _).mono ?_
      rintro e w4 ⟨PA, pc, rfl, pxo, pge, hb4⟩
      have hzw4 := hb4.size
      (try simp at hzw4)
      obtain ⟨ccw4, ffw4⟩ := bcell (hb4.mono (show w.heap.size + 3 ≤ _ by first | omega | (simp <;> omega)))
      have zw40 : w.heap.size < w4.heap.size := (by omega); have zw41 : w.heap.size + 1 < w4.heap.size := (by omega); have zw42 : w.heap.size + 1 + 1 < w4.heap.size := (by omega)
      have hBw4 : Below w.heap.size w w4 := (by repeat (first | (with_reducible exact Below.refl _ _) | (with_reducible assumption) | ((with_reducible refine Below.alloc ?_ ?_ _); rotate_left; (first | omega | (simp <;> omega))) | ((with_reducible refine Below.setCell ?_ ?_ _); rotate_left; (first | omega | (simp <;> omega))) | (with_reducible refine below_drewN ?_ _) | (with_reducible refine Below.drew ?_) | ((with_reducible refine Below.step (by assumption) ?_ ?_); rotate_left; (first | omega | (simp <;> omega)))))
      have hG4 : Own w4 w3.heap.size 68 (gcells a b g1 g2 s.length t.length k1 k2) := Own.step hb4 (Own.new _ _ _)
      have o1' := Own.step hb4 (Own.alloc o1 _)
      have o2' := Own.step hb4 (Own.alloc o2 _)
      have hG4l := hG4.lt
      (try simp at pge)
      (try simp at hzw4)
      have HPG := Lib.hid pge
      have HPO := Lib.hid pxo
      have HB4 := Lib.hid hBw4
      have k20 : w4.cell? ⟨w.heap.size, 0, none⟩ = some (.int .i64 a) := by go_simp
      have k21 : w4.cell? ⟨w.heap.size, 1, none⟩ = some (.int .i64 b) := by go_simp
      have k22 : w4.cell? ⟨w.heap.size, 2, none⟩ = some (.slice A s.length c) := by go_simp
      have k23 : w4.cell? ⟨w.heap.size, 3, none⟩ = some (.slice B t.length d) := by go_simp
      have hr0 : ∀ j, j < 4 → (w4.cell? ⟨w.heap.size + 1 + 1, j, none⟩).isSome = true := by
        intro j hj
        match j, hj with
        | 0, _ => go_simp
        | 1, _ => go_simp
        | 2, _ => go_simp
        | 3, _ => go_simp
      have kf : ∀ j, w4.frozen? ⟨w.heap.size + 1 + 1, j, none⟩ = false := by intro j; go_simp
      have K20 := Lib.hid (And.intro k20 (And.intro k21 (And.intro k22 k23)))
      have KR := Lib.hid hr0
      have KF := Lib.hid kf
      have O1' := Lib.hid o1'
      have O2' := Lib.hid o2'
      have OG' := Lib.hid hG4
      clear o1 o2 o1' o2' hG4 pxo pge hb4 k20 k21 k22 k23 hr0 kf ccw1 ffw1 ccw2 ffw2  ccw3 ffw3 ccw4 ffw4 hbw1 hbw2 hbw3 hBw1 hBw2 hBw4
      go_wp2_with fail
      go_loopw [9, 10, 47] (fun _ _ i wr => ∃ k : Nat, k ≤ l.length ∧ i = .int .i64 k ∧ okTo (bAt a xn yn pn) always (atI l) s t k = true ∧ Own wr w3.heap.size 68 (gcells a b g1 g2 s.length t.length k1 k2) ∧ Own wr g1 3 (ints (pixTo (bAt a xn yn pn) always (atI l) s k) ++ d1) ∧ Own wr g2 4 (bools (donTo (bAt a xn yn pn) always t k) ++ d2) ∧ Only w4.heap.size [w3.heap.size, g1, g2] w4 wr) (fun _ _ i _ => l.length - (intOf i).toNat)
      case atStart => exact ⟨0, Nat.zero_le _, rfl, rfl, OG'.out, O1'.out, O2'.out, Only.refl _ _ _⟩
      case round =>
        obtain ⟨k, hk, rfl, hok, r0, r1, r2, hO⟩ := hrel
        have HST := Lib.hid hok
        clear hok
        have hbw : Below w.heap.size w wr := Below.trans HB4.out (hO.below (by omega) (fun x hx => by simp at hx; omega))
        have hOz := hO.size
        obtain ⟨oc4, of4⟩ := hO.cell (w.heap.size + 1 + 1) (by omega) (by simp; omega)
        obtain ⟨oc2, of2⟩ := hO.cell w.heap.size (by omega) (by simp; omega)
        obtain ⟨ue0, er0⟩ : ∃ u, wr.cell? ⟨w.heap.size + 1 + 1, 0, none⟩ = some u := Option.isSome_iff_exists.1 (by rw [oc4 0]; exact KR.out 0 (by omega))
        obtain ⟨ue1, er1⟩ : ∃ u, wr.cell? ⟨w.heap.size + 1 + 1, 1, none⟩ = some u := Option.isSome_iff_exists.1 (by rw [oc4 1]; exact KR.out 1 (by omega))
        obtain ⟨ue2, er2⟩ : ∃ u, wr.cell? ⟨w.heap.size + 1 + 1, 2, none⟩ = some u := Option.isSome_iff_exists.1 (by rw [oc4 2]; exact KR.out 2 (by omega))
        obtain ⟨ue3, er3⟩ : ∃ u, wr.cell? ⟨w.heap.size + 1 + 1, 3, none⟩ = some u := Option.isSome_iff_exists.1 (by rw [oc4 3]; exact KR.out 3 (by omega))
        have erf : ∀ j, wr.frozen? ⟨w.heap.size + 1 + 1, j, none⟩ = false := by intro j; rw [of4 j]; exact KF.out j
        have e20 := (oc2 0).trans K20.out.1
        have e21 := (oc2 1).trans K20.out.2.1
        have e22 := (oc2 2).trans K20.out.2.2.1
        have e23 := (oc2 3).trans K20.out.2.2.2
        have e02 := r0.cell 2
        have e03 := r0.cell 3
        have e04 := r0.cell 4
        have e05 := r0.cell 5
        simp only [gcells, List.getElem?_cons_zero, List.getElem?_cons_succ] at e02 e03 e04 e05
        have HR0 := Lib.hid r0
        have HR1 := Lib.hid r1
        have HR2 := Lib.hid r2
        have HO := Lib.hid hO
        have HBW := Lib.hid hbw
        have hlr := r0.lt
        have HPX := Lib.hid (OwnS.only HPO.out hO (fun y hy => ⟨OwnS.lt HPO.out y hy, fun hx => by have h1 := HPG.out y hy; simp at hx; omega⟩))
        clear oc4 of4 r0 r1 r2 hO hbw oc2 of2
        by_cases hlt : k < l.length
        · obtain ⟨bp, op, rfl, hbhp, hcellp⟩ := HPX.out.rs.open_.2.2 (by omega)
          obtain ⟨b3', o3', rfl, hbh3, hcell3⟩ := (RS.step HBW.out H3.out).open_.2.2 (by omega)
          have hkn : k < pn * qn := by have := HLN.out; omega
          obtain ⟨hat, hkd, hkm⟩ := bAt_lt (a := a) (b := b) (x := xn) (y := yn) hp1 hxp hyq hkn
          obtain ⟨D, hD⟩ : ∃ D, k / pn = D := ⟨_, rfl⟩
          obtain ⟨M, hM⟩ : ∃ M, k % pn = M := ⟨_, rfl⟩
          obtain ⟨dv1, dv2, dv3⟩ := divs_of hD hM hp1
          have HATE : Hid (bAt a xn yn pn k = (yn + D) * a + (xn + M)) := by show _ = _; rw [bAt, hD, hM]
          obtain ⟨Z, hZ⟩ : ∃ Z, bAt a xn yn pn k = Z := ⟨_, rfl⟩
          have hma : (yn + D) * a ≤ 12 * 12 := Nat.mul_le_mul (by omega) (by omega)
          obtain ⟨R, hR⟩ : ∃ R, (yn + D) * a = R := ⟨_, rfl⟩
          have hZR : R + (xn + M) = Z := by rw [← hZ, HATE.out, hR]
          have hrc : ((yn : Int) + (D : Int)) * (a : Int) = (R : Int) := by rw [← hR]; simp
          have hsZ : Z < s.length := by rw [HN.out.1, ← hZ]; exact hat
          have htZ : Z < t.length := by rw [HN.out.2, ← hZ]; exact hat
          obtain ⟨xp1, xp2⟩ := pxs_at xn yn pn l.length hlt
          rw [hM] at xp1
          rw [hD] at xp2
          obtain ⟨XX, hXX⟩ : ∃ XX, xn + M = XX := ⟨_, rfl⟩
          obtain ⟨YY, hYY⟩ : ∃ YY, yn + D = YY := ⟨_, rfl⟩
          rw [hXX] at xp1 hZR
          rw [hYY] at xp2
          have c1 : wr.cell? ⟨bp, op + k * 2, none⟩ = some (.int .i64 XX) := by rw [hcellp (k * 2) (by omega), xp1]
          have c2 : wr.cell? ⟨bp, op + k * 2 + 1, none⟩ = some (.int .i64 YY) := by rw [show op + k * 2 + 1 = op + (k * 2 + 1) by omega, hcellp (k * 2 + 1) (by omega), xp2]
          have x3 : wr.cell? ⟨b3', o3' + k, none⟩ = some (.int .i64 l[k]) := by rw [hcell3 k (by omega), ints_at hlt]
          have hv : atI l k = l[k] := getD_at _ _
          have hfar : ∀ j, j < k → bAt a xn yn pn j ≠ Z := fun j hj e => by rw [← hZ] at e; have := bAt_inj hp1 hxp e; omega
          have hpk : ∀ h : Z < (pixTo (bAt a xn yn pn) always (atI l) s k).length, (pixTo (bAt a xn yn pn) always (atI l) s k)[Z] = s[Z] := fun h => by
            have := pixTo_far (at_ := bAt a xn yn pn) (on := always) (v := atI l) s (i := Z) k hfar
            rw [List.getElem?_eq_getElem h, List.getElem?_eq_getElem hsZ] at this
            exact Option.some.inj this
          have hdk : ∀ h : Z < (donTo (bAt a xn yn pn) always t k).length, (donTo (bAt a xn yn pn) always t k)[Z] = t[Z] := fun h => by
            have := donTo_far (at_ := bAt a xn yn pn) (on := always) t (i := Z) k hfar
            rw [List.getElem?_eq_getElem h, List.getElem?_eq_getElem htZ] at this
            exact Option.some.inj this
          have hlp : (pixTo (bAt a xn yn pn) always (atI l) s k).length = s.length := pixTo_len _ _
          have hld : (donTo (bAt a xn yn pn) always t k).length = t.length := donTo_len _ _
          have htl : t.length ≤ 144 := by rw [HN.out.2, ← HN.out.1]; exact h144
          have HP2 : Hid ((t[Z] = true → s[Z] = l[k]) → okTo (bAt a xn yn pn) always (atI l) s t (k + 1) = true) := fun hy => okTo_succ HST.out (by subst hZ; exact okAt_is (k := k) hsZ htZ (fun h => by rw [hv]; exact hy h))
          have HPN : Hid (t[Z] = true → ¬ s[Z] = l[k] → okTo (bAt a xn yn pn) always (atI l) s t l.length = false) := fun h1 h2 => okTo_false hlt (by subst hZ; exact okAt_not (k := k) rfl hsZ htZ h1 (by rw [hv]; exact h2))
          have HPY : Hid ((t[Z] = true → s[Z] = l[k]) → ∀ wx, Own wx w3.heap.size 68 (gcells a b g1 g2 s.length t.length k1 k2) → Own wx g1 3 (ints (pixTo (bAt a xn yn pn) always (atI l) s k) ++ d1) → Own wx g2 4 (bools (donTo (bAt a xn yn pn) always t k) ++ d2) →
              Calls Try.prog 26 #[.pointer (some ⟨w3.heap.size, 0, none⟩), .int .i64 Z, .int .i64 l[k]] wx fun e w' => e = .returned (.bool true) ∧ Own w' w3.heap.size 68 (gcells a b g1 g2 s.length t.length k1 k2) ∧
                Own w' g1 3 (ints (pixTo (bAt a xn yn pn) always (atI l) s (k + 1)) ++ d1) ∧ Own w' g2 4 (bools (donTo (bAt a xn yn pn) always t (k + 1)) ++ d2) ∧ Only wx.heap.size [w3.heap.size, g1, g2] wx w') := fun hc wx a0 q1 q2 => by
            have q := I_put_yes (G := w3.heap.size) (g1 := g1) (g2 := g2) (k1 := k1) (k2 := k2) (k := Z) (W := a) (H := b) (v := l[k]) (s := pixTo (bAt a xn yn pn) always (atI l) s k) (t := donTo (bAt a xn yn pn) always t k) (d1 := d1) (d2 := d2) wx (by rw [hlp, hld]; exact a0) q1 q2 (by omega) (by omega) (by omega) (by omega) (by omega) (by omega) hg12 (by rw [hpk, hdk]; exact hc)
            rw [hlp, hld] at q
            have p1 : pixTo (bAt a xn yn pn) always (atI l) s (k + 1) = (pixTo (bAt a xn yn pn) always (atI l) s k).set Z l[k] := by rw [← hv, ← hZ]; exact (pixTo_on rfl).symm
            have p2 : donTo (bAt a xn yn pn) always t (k + 1) = (donTo (bAt a xn yn pn) always t k).set Z true := by rw [← hZ]; exact (donTo_on rfl).symm
            rw [p1, p2]
            exact q
          have HPXX : Hid (t[Z] = true → ¬ s[Z] = l[k] → ∀ wx, Own wx w3.heap.size 68 (gcells a b g1 g2 s.length t.length k1 k2) → Own wx g1 3 (ints (pixTo (bAt a xn yn pn) always (atI l) s k) ++ d1) → Own wx g2 4 (bools (donTo (bAt a xn yn pn) always t k) ++ d2) →
              Calls Try.prog 26 #[.pointer (some ⟨w3.heap.size, 0, none⟩), .int .i64 Z, .int .i64 l[k]] wx fun e w' => e = .returned (.bool false) ∧ Own w' w3.heap.size 68 (gcells a b g1 g2 s.length t.length k1 k2) ∧ Only wx.heap.size [w3.heap.size] wx w') := fun hc hne wx a0 q1 q2 => by
            have q := I_put_no (G := w3.heap.size) (g1 := g1) (g2 := g2) (k1 := k1) (k2 := k2) (k := Z) (W := a) (H := b) (v := l[k]) (s := pixTo (bAt a xn yn pn) always (atI l) s k) (t := donTo (bAt a xn yn pn) always t k) (d1 := d1) (d2 := d2) wx (by rw [hlp, hld]; exact a0) q1 q2 (by omega) (by omega) (by omega) (by omega) (by omega) (by omega) (by rw [hdk]; exact hc) (by rw [hpk]; exact hne)
            rw [hlp, hld] at q
            exact q
          have HVB : Hid (putOk a b s t xn yn pn qn l = false → PutR a b s.length t.length (putOk a b s t xn yn pn qn l) (putS a b s t xn yn pn qn l) (putT a b s t xn yn pn qn l) w = PutR a b s.length t.length false s t w) := HVN
          have HQ5 : Hid (putOk a b s t xn yn pn qn l = (allIn l 0 256 && okTo (bAt a xn yn pn) always (atI l) s t l.length)) := q5
          have hb3w : b3' < w.heap.size := by
            obtain ⟨b5, o5, he5, h5, _⟩ := H3.out.open_.2.2 (by omega)
            injection he5 with he5
            injection he5 with he6 he7
            omega
          have hws : w.heap.size ≤ wr.heap.size := HBW.out.size
          have hrc' : (YY : Int) * (a : Int) = (R : Int) := by rw [← hR, ← hYY]; simp
          clear hcellp hcell3 hv hat hma hZ hR hpk hdk hfar hlp hld htl hrc xp1 xp2 dv1 dv2 dv3 hM hD hXX hYY hkd hkm hkn
          have i0 : (0 : Int) ≤ k := by omega
          have i1 : (k : Int) < l.length := by omega
          have y3' : IntKind.i64.wrap (R : Int) = R := IntWalk.i64_in _ (by omega)
          have y4' : IntKind.i64.wrap ((R : Int) + (XX : Int)) = (Z : Int) := by rw [show (R : Int) + (XX : Int) = (Z : Int) by omega]; exact IntWalk.i64_in _ (by omega)
          have y0' : IntKind.i64.wrap ((k : Int) + 1) = (k : Int) + 1 := IntWalk.i64_in _ (by omega)
          have hbhp' : ¬ bp = wr.heap.size := by omega
          have hne9 : ¬ w.heap.size = wr.heap.size := by omega
          generalize s[Z] = v1 at *
          generalize l[k] = v2 at *
          generalize t[Z] = v3 at *
          go_wp2_with fail
          by_cases hc : v3 = true ∧ ¬ v1 = v2
          · obtain ⟨rfl, hne2⟩ := hc
            have HV := Lib.hid (HVB.out (by rw [HQ5.out, HPN.out rfl hne2, Bool.and_false]))
            have HX := Lib.hid (HPXX.out rfl hne2)
            clear hne2
            go_region_held3 (fun w' => w'.cell? ⟨wr.heap.size, 0, none⟩ = some (.int .i64 XX) ∧ w'.cell? ⟨wr.heap.size, 1, none⟩ = some (.int .i64 YY) ∧ w'.cell? ⟨w.heap.size, 0, none⟩ = some (.int .i64 a) ∧ w'.cell? ⟨b3', o3' + k, none⟩ = some (.int .i64 v2))
              (first | ((try dsimp only); refine ⟨?_, ?_, ?_, ?_⟩ <;> (go_simp; done)) | go_keep)
              ((go_at_call 26; (with_reducible refine (HX.out _ (by repeat (first | (with_reducible exact HR0.out) | ((with_reducible refine Own.far ?_ ?_ _); rotate_left; (first | omega | (simp <;> omega))) | (with_reducible refine Own.alloc ?_ _) | (with_reducible refine Own.drewN ?_ _) | (with_reducible refine Own.drew ?_) | (with_reducible refine Own.step (by assumption) ?_))) (by repeat (first | (with_reducible exact HR1.out) | ((with_reducible refine Own.far ?_ ?_ _); rotate_left; (first | omega | (simp <;> omega))) | (with_reducible refine Own.alloc ?_ _) | (with_reducible refine Own.drewN ?_ _) | (with_reducible refine Own.drew ?_) | (with_reducible refine Own.step (by assumption) ?_))) (by repeat (first | (with_reducible exact HR2.out) | ((with_reducible refine Own.far ?_ ?_ _); rotate_left; (first | omega | (simp <;> omega))) | (with_reducible refine Own.alloc ?_ _) | (with_reducible refine Own.drewN ?_ _) | (with_reducible refine Own.drew ?_) | (with_reducible refine Own.step (by assumption) ?_)))).mono ?_); rintro e w5 ⟨rfl, p0, hO5⟩; have hz5 := hO5.size; (try simp at hz5); (have oc5 := fun b (h1 : b < wr.heap.size + 1) (h2 : ¬ b = w3.heap.size) => hO5.cell b (by (try simp); omega) (by simp; omega)); (have t1 := (oc5 wr.heap.size (by omega) (by omega)).1); (have t2 := (oc5 w.heap.size (by omega) (by omega)).1); (have t3 := (oc5 b3' (by omega) (by omega)).1); (have t4 := oc5 (w.heap.size + 1 + 1) (by omega) (by omega)); obtain ⟨t5, t6⟩ := t4; clear oc5))
            have hBq : Below w.heap.size w w5 := by
              refine Below.trans (Below.drew (Below.alloc HBW.out hws _)) (hO5.below ?_ (fun x hx => by simp at hx; omega))
              simp; omega
            have z91 : w.heap.size < wr.heap.size := by omega
            have z92 : w.heap.size + 1 + 1 < wr.heap.size := by omega
            have z93 : w.heap.size < w5.heap.size := by omega
            have z94 : w.heap.size + 1 + 1 < w5.heap.size := by omega
            have t20 : w5.cell? ⟨w.heap.size, 0, none⟩ = some (.int .i64 a) := by rw [t2]; go_simp
            have t21 : w5.cell? ⟨w.heap.size, 1, none⟩ = some (.int .i64 b) := by rw [t2]; go_simp
            have t22 : w5.cell? ⟨w.heap.size, 2, none⟩ = some (.slice A s.length c) := by rw [t2]; go_simp
            have t23 : w5.cell? ⟨w.heap.size, 3, none⟩ = some (.slice B t.length d) := by rw [t2]; go_simp
            clear t2
            go_wp2_with fail
            refine (I_copyFilm _ hs ht (RS.step hBq H1.out) (RS.step hBq H2.out)).mono ?_
            rintro e w9 ⟨P1, j1, P2, j2, rfl, u1, u2, ge1, ge2, hd, hb9⟩
            have hz9 := hb9.size
            obtain ⟨cc9, ff9⟩ := bcell (hb9.mono (show w.heap.size + 3 ≤ _ by first | omega | (simp <;> omega)))
            (try simp at hz9)
            have zz9 : w.heap.size + 1 + 1 < w9.heap.size := by omega
            have hB9 : Below w.heap.size w w9 := Below.trans hBq (hb9.mono hBq.size)
            go_wp2
            rw [HV.out]
            refine bodyPost_ret (v := .tuple #[vFilm a b (.slice P1 s.length j1) (.slice P2 t.length j2), .bool false]) (by simp [results, Try.results10, go_sem, *]) rfl ⟨P1, j1, P2, j2, rfl, ?_, ?_, (fun x hx => by have := ge1 x hx; (try simp at this); omega), (fun x hx => by have := ge2 x hx; (try simp at this); omega), hd, (by repeat (first | (with_reducible exact Below.refl _ _) | (with_reducible exact hB9) | (with_reducible assumption) | ((with_reducible refine Below.alloc ?_ ?_ _); rotate_left; (first | omega | (simp <;> omega))) | ((with_reducible refine Below.setCell ?_ ?_ _); rotate_left; (first | omega | (simp <;> omega))) | (with_reducible refine below_drewN ?_ _) | (with_reducible refine Below.drew ?_) | ((with_reducible refine Below.step (by assumption) ?_ ?_); rotate_left; (first | omega | (simp <;> omega)))))⟩
            · exact (by repeat (first | (with_reducible exact u1) | (with_reducible refine OwnS.drew ?_) | (with_reducible refine OwnS.drewN ?_ _) | ((with_reducible refine OwnS.far ?_ ?_ _); rotate_left; (intro x hx; have := ge1 x hx; (try simp at this); simp; omega))))
            · exact (by repeat (first | (with_reducible exact u2) | (with_reducible refine OwnS.drew ?_) | (with_reducible refine OwnS.drewN ?_ _) | ((with_reducible refine OwnS.far ?_ ?_ _); rotate_left; (intro x hx; have := ge2 x hx; (try simp at this); simp; omega))))
          · have E3 := Lib.hid (HP2.out (fun h => by by_cases e : v1 = v2; exact e; exact absurd ⟨h, e⟩ hc))
            have HX := Lib.hid (HPY.out (fun h => by by_cases e : v1 = v2; exact e; exact absurd ⟨h, e⟩ hc))
            clear hc er0 er1 er2 er3 erf
            go_region_held3 (fun w' => w'.cell? ⟨wr.heap.size, 0, none⟩ = some (.int .i64 XX) ∧ w'.cell? ⟨wr.heap.size, 1, none⟩ = some (.int .i64 YY) ∧ w'.cell? ⟨w.heap.size, 0, none⟩ = some (.int .i64 a) ∧ w'.cell? ⟨b3', o3' + k, none⟩ = some (.int .i64 v2))
              (first | ((try dsimp only); refine ⟨?_, ?_, ?_, ?_⟩ <;> (go_simp; done)) | go_keep)
              ((go_at_call 26; (with_reducible refine (HX.out _ (by repeat (first | (with_reducible exact HR0.out) | ((with_reducible refine Own.far ?_ ?_ _); rotate_left; (first | omega | (simp <;> omega))) | (with_reducible refine Own.alloc ?_ _) | (with_reducible refine Own.drewN ?_ _) | (with_reducible refine Own.drew ?_) | (with_reducible refine Own.step (by assumption) ?_))) (by repeat (first | (with_reducible exact HR1.out) | ((with_reducible refine Own.far ?_ ?_ _); rotate_left; (first | omega | (simp <;> omega))) | (with_reducible refine Own.alloc ?_ _) | (with_reducible refine Own.drewN ?_ _) | (with_reducible refine Own.drew ?_) | (with_reducible refine Own.step (by assumption) ?_))) (by repeat (first | (with_reducible exact HR2.out) | ((with_reducible refine Own.far ?_ ?_ _); rotate_left; (first | omega | (simp <;> omega))) | (with_reducible refine Own.alloc ?_ _) | (with_reducible refine Own.drewN ?_ _) | (with_reducible refine Own.drew ?_) | (with_reducible refine Own.step (by assumption) ?_)))).mono ?_); rintro e w5 ⟨rfl, p0, p1', p2', hO5⟩; have hz5 := hO5.size; (try simp at hz5); (have oc5 := fun b (h1 : b < wr.heap.size + 1) (h2 : ¬ (b = w3.heap.size ∨ b = g1 ∨ b = g2)) => hO5.cell b (by (try simp); omega) (by simp; omega)); (have t1 := (oc5 wr.heap.size (by omega) (by omega)).1); (have t2 := (oc5 w.heap.size (by omega) (by omega)).1); (have t3 := (oc5 b3' (by omega) (by omega)).1); clear oc5))
            have P0 := Lib.hid p0
            have P1 := Lib.hid p1'
            have P2 := Lib.hid p2'
            have PO : Hid (Only w4.heap.size [w3.heap.size, g1, g2] w4 w5) := by
              refine Only.trans (Only.trans HO.out (Only.drew (Only.of_below ((Below.refl wr.heap.size wr).alloc (Nat.le_refl _) _) [w3.heap.size, g1, g2])) (by omega) (fun x hx => hx)) hO5 ?_ (fun x hx => hx)
              simp; omega
            clear p0 p1' p2' hO5
            go_wp2
            go_roundw
            case rel => exact ⟨k + 1, by omega, by go_num, E3.out, P0.out, P1.out, P2.out, PO.out⟩
            case measure => simp [intOf]; omega
        · obtain rfl : k = l.length := by omega
          have HV : Hid (PutR a b s.length t.length (putOk a b s t xn yn pn qn l) (putS a b s t xn yn pn qn l) (putT a b s t xn yn pn qn l) w = PutR a b s.length t.length true (pixTo (bAt a xn yn pn) always (atI l) s l.length) (donTo (bAt a xn yn pn) always t l.length) w) := by
            have hq5 : putOk a b s t xn yn pn qn l = (allIn l 0 256 && okTo (bAt a xn yn pn) always (atI l) s t l.length) := q5.out
            have hok : putOk a b s t xn yn pn qn l = true := by rw [hq5, HAI.out]; exact HST.out
            show _ = _
            rw [putS, putT, hok]; rfl
          have m1 : OwnS wr 1 (some ⟨g1, 0, none⟩) s.length k1 3 (ints (pixTo (bAt a xn yn pn) always (atI l) s l.length)) := OwnS.of_block HR1.out (by rw [List.length_map, Nat.mul_one]; exact pixTo_len _ _) k1a (by unfold maxLen; omega)
          have m2 : OwnS wr 1 (some ⟨g2, 0, none⟩) t.length k2 4 (bools (donTo (bAt a xn yn pn) always t l.length)) := OwnS.of_block HR2.out (by rw [List.length_map, Nat.mul_one]; exact donTo_len _ _) k2a (by unfold maxLen; omega)
          go_wp2
          rw [HV.out]
          refine bodyPost_ret (v := .tuple #[vFilm a b (.slice (some ⟨g1, 0, none⟩) s.length k1) (.slice (some ⟨g2, 0, none⟩) t.length k2), .bool true]) (by simp [results, Try.results10, go_sem, *]) rfl ?_
          refine ⟨_, _, _, _, rfl, ?_, ?_, (fun x hx => by simp [gOf] at hx; omega), (fun x hx => by simp [gOf] at hx; omega), (fun x hx hy => by simp [gOf] at hx hy; omega), (by repeat (first | (with_reducible exact Below.refl _ _) | (with_reducible exact HBW.out) | (with_reducible assumption) | ((with_reducible refine Below.alloc ?_ ?_ _); rotate_left; (first | omega | (simp <;> omega))) | ((with_reducible refine Below.setCell ?_ ?_ _); rotate_left; (first | omega | (simp <;> omega))) | (with_reducible refine below_drewN ?_ _) | (with_reducible refine Below.drew ?_) | ((with_reducible refine Below.step (by assumption) ?_ ?_); rotate_left; (first | omega | (simp <;> omega)))))⟩
          · exact (by repeat (first | (with_reducible exact m1) | (with_reducible refine OwnS.drew ?_) | (with_reducible refine OwnS.drewN ?_ _) | ((with_reducible refine OwnS.far ?_ ?_ _); rotate_left; (intro x hx; simp [gOf] at hx; simp; omega))))
          · exact (by repeat (first | (with_reducible exact m2) | (with_reducible refine OwnS.drew ?_) | (with_reducible refine OwnS.drewN ?_ _) | ((with_reducible refine OwnS.far ?_ ?_ _); rotate_left; (intro x hx; simp [gOf] at hx; simp; omega))))
end Go.Proofs.Ythpanpedoeghoaa
