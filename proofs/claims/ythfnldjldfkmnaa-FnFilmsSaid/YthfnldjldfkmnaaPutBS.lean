/- MADE BY PROGRAM (genput.py). PutBucket of the reference. -/
import Derived.Test.YthfnldjldfkmnaaPutP
import Derived.BigQuiet
import Derived.Deep.QuietTactic
import Derived.StillTailTactics
namespace Go.Proofs.Ythfnldjldfkmnaa
open Go.RowKit
set_option linter.unusedVariables false
set_option maxRecDepth 100000
set_option maxHeartbeats 16000000 in
theorem S_PutBucket {W H x y p q : Int} {A B C : Option Addr} {c d f : Nat} {s : List Int} {t : List Bool} {l : List Int} (w : World) (hs : s.length ≤ 1048576) (ht : t.length ≤ 1048576) (h : RS w 1 A s.length c (ints s)) (h2 : RS w 1 B t.length d (bools t)) (h3 : RS w 1 C l.length f (ints l)) :
    Calls Try.prog 73 #[vFilm W H (.slice A s.length c) (.slice B t.length d), vBucket x y p q, .slice C l.length f] w (PutR W H s.length t.length (putOk W H s t x y p q l) (putS W H s t x y p q l) (putT W H s t x y p q l) w) := by
  have n1 := h.len
  have n2 := h2.len
  have n3 := h3.len
  unfold maxLen at n1 n2 n3
  have H1 := Lib.hid h
  have H2 := Lib.hid h2
  have H3 := Lib.hid h3
  clear h h2 h3
  have HVN : Hid (putOk W H s t x y p q l = false → PutR W H s.length t.length (putOk W H s t x y p q l) (putS W H s t x y p q l) (putT W H s t x y p q l) w = PutR W H s.length t.length false s t w) := fun hf => by rw [putS, putT, hf]; rfl
  rcases put_ways W H s t x y p q l with ⟨q1, q5⟩ | ⟨q1, q2, q5⟩ | ⟨q1, q2, q3, q5⟩ | ⟨q1, q2, q3, q5⟩
  case inl =>
    have HV := Lib.hid (HVN.out q5.out)
    go_enter Try.func73, Try.ntmps73
    go_wp2_with fail
    refine (S_IsValidFilm _ (RS.step (by repeat (first | (with_reducible exact Below.refl _ _) | (with_reducible assumption) | ((with_reducible refine Below.alloc ?_ ?_ _); rotate_left; (first | omega | (simp <;> omega))) | ((with_reducible refine Below.setCell ?_ ?_ _); rotate_left; (first | omega | (simp <;> omega))) | (with_reducible refine below_drewN ?_ _) | (with_reducible refine Below.drew ?_) | ((with_reducible refine Below.step (by assumption) ?_ ?_); rotate_left; (first | omega | (simp <;> omega))))) H1.out) (RS.step (by repeat (first | (with_reducible exact Below.refl _ _) | (with_reducible assumption) | ((with_reducible refine Below.alloc ?_ ?_ _); rotate_left; (first | omega | (simp <;> omega))) | ((with_reducible refine Below.setCell ?_ ?_ _); rotate_left; (first | omega | (simp <;> omega))) | (with_reducible refine below_drewN ?_ _) | (with_reducible refine Below.drew ?_) | ((with_reducible refine Below.step (by assumption) ?_ ?_); rotate_left; (first | omega | (simp <;> omega))))) H2.out)).mono ?_
    rintro e w1 ⟨rfl, hbw1⟩
    have hzw1 := hbw1.size
    (try simp at hzw1)
    obtain ⟨ccw1, ffw1⟩ := bcell (hbw1.mono (show w.heap.size + 3 ≤ _ by first | omega | (simp <;> omega)))
    have zw10 : w.heap.size < w1.heap.size := (by omega); have zw11 : w.heap.size + 1 < w1.heap.size := (by omega); have zw12 : w.heap.size + 1 + 1 < w1.heap.size := (by omega)
    have hBw1 : Below w.heap.size w w1 := (by repeat (first | (with_reducible exact Below.refl _ _) | (with_reducible assumption) | ((with_reducible refine Below.alloc ?_ ?_ _); rotate_left; (first | omega | (simp <;> omega))) | ((with_reducible refine Below.setCell ?_ ?_ _); rotate_left; (first | omega | (simp <;> omega))) | (with_reducible refine below_drewN ?_ _) | (with_reducible refine Below.drew ?_) | ((with_reducible refine Below.step (by assumption) ?_ ?_); rotate_left; (first | omega | (simp <;> omega)))))
    go_wp2_with fail
    refine (S_copyFilm _ hs ht (RS.step hBw1 H1.out) (RS.step hBw1 H2.out)).mono ?_
    rintro e w9 ⟨P1, j1, P2, j2, rfl, u1, u2, ge1, ge2, hd, hb9⟩
    have hz9 := hb9.size
    obtain ⟨cc9, ff9⟩ := bcell (hb9.mono (show w.heap.size + 3 ≤ _ by first | omega | (simp <;> omega)))
    (try simp at hz9)
    have zz9 : w.heap.size + 1 + 1 < w9.heap.size := by omega
    have hB9 : Below w.heap.size w w9 := Below.trans hBw1 (hb9.mono hBw1.size)
    go_wp2
    rw [HV.out]
    refine bodyPost_ret (v := .tuple #[vFilm W H (.slice P1 s.length j1) (.slice P2 t.length j2), .bool false]) (by simp [results, Try.results73, go_sem, *]) rfl ⟨P1, j1, P2, j2, rfl, ?_, ?_, (fun x hx => by have := ge1 x hx; (try simp at this); omega), (fun x hx => by have := ge2 x hx; (try simp at this); omega), hd, (by repeat (first | (with_reducible exact Below.refl _ _) | (with_reducible exact hB9) | (with_reducible assumption) | ((with_reducible refine Below.alloc ?_ ?_ _); rotate_left; (first | omega | (simp <;> omega))) | ((with_reducible refine Below.setCell ?_ ?_ _); rotate_left; (first | omega | (simp <;> omega))) | (with_reducible refine below_drewN ?_ _) | (with_reducible refine Below.drew ?_) | ((with_reducible refine Below.step (by assumption) ?_ ?_); rotate_left; (first | omega | (simp <;> omega)))))⟩
    · exact (by repeat (first | (with_reducible exact u1) | (with_reducible refine OwnS.drew ?_) | (with_reducible refine OwnS.drewN ?_ _) | ((with_reducible refine OwnS.far ?_ ?_ _); rotate_left; (intro x hx; have := ge1 x hx; (try simp at this); simp; omega))))
    · exact (by repeat (first | (with_reducible exact u2) | (with_reducible refine OwnS.drew ?_) | (with_reducible refine OwnS.drewN ?_ _) | ((with_reducible refine OwnS.far ?_ ?_ _); rotate_left; (intro x hx; have := ge2 x hx; (try simp at this); simp; omega))))
  case inr.inl =>
    have HV := Lib.hid (HVN.out q5.out)
    obtain ⟨⟨hW1, hW2⟩, ⟨hH1, hH2⟩, _⟩ := validFilm_small q1
    go_enter Try.func73, Try.ntmps73
    go_wp2_with fail
    refine (S_IsValidFilm _ (RS.step (by repeat (first | (with_reducible exact Below.refl _ _) | (with_reducible assumption) | ((with_reducible refine Below.alloc ?_ ?_ _); rotate_left; (first | omega | (simp <;> omega))) | ((with_reducible refine Below.setCell ?_ ?_ _); rotate_left; (first | omega | (simp <;> omega))) | (with_reducible refine below_drewN ?_ _) | (with_reducible refine Below.drew ?_) | ((with_reducible refine Below.step (by assumption) ?_ ?_); rotate_left; (first | omega | (simp <;> omega))))) H1.out) (RS.step (by repeat (first | (with_reducible exact Below.refl _ _) | (with_reducible assumption) | ((with_reducible refine Below.alloc ?_ ?_ _); rotate_left; (first | omega | (simp <;> omega))) | ((with_reducible refine Below.setCell ?_ ?_ _); rotate_left; (first | omega | (simp <;> omega))) | (with_reducible refine below_drewN ?_ _) | (with_reducible refine Below.drew ?_) | ((with_reducible refine Below.step (by assumption) ?_ ?_); rotate_left; (first | omega | (simp <;> omega))))) H2.out)).mono ?_
    rintro e w1 ⟨rfl, hbw1⟩
    have hzw1 := hbw1.size
    (try simp at hzw1)
    obtain ⟨ccw1, ffw1⟩ := bcell (hbw1.mono (show w.heap.size + 3 ≤ _ by first | omega | (simp <;> omega)))
    have zw10 : w.heap.size < w1.heap.size := (by omega); have zw11 : w.heap.size + 1 < w1.heap.size := (by omega); have zw12 : w.heap.size + 1 + 1 < w1.heap.size := (by omega)
    have hBw1 : Below w.heap.size w w1 := (by repeat (first | (with_reducible exact Below.refl _ _) | (with_reducible assumption) | ((with_reducible refine Below.alloc ?_ ?_ _); rotate_left; (first | omega | (simp <;> omega))) | ((with_reducible refine Below.setCell ?_ ?_ _); rotate_left; (first | omega | (simp <;> omega))) | (with_reducible refine below_drewN ?_ _) | (with_reducible refine Below.drew ?_) | ((with_reducible refine Below.step (by assumption) ?_ ?_); rotate_left; (first | omega | (simp <;> omega)))))
    go_wp2_with fail
    refine (S_inside _ ⟨hW1, hW2⟩ ⟨hH1, hH2⟩).mono ?_
    rintro e w2 ⟨rfl, hbw2⟩
    have hzw2 := hbw2.size
    (try simp at hzw2)
    obtain ⟨ccw2, ffw2⟩ := bcell (hbw2.mono (show w.heap.size + 3 ≤ _ by first | omega | (simp <;> omega)))
    have zw20 : w.heap.size < w2.heap.size := (by omega); have zw21 : w.heap.size + 1 < w2.heap.size := (by omega); have zw22 : w.heap.size + 1 + 1 < w2.heap.size := (by omega)
    have hBw2 : Below w.heap.size w w2 := (by repeat (first | (with_reducible exact Below.refl _ _) | (with_reducible assumption) | ((with_reducible refine Below.alloc ?_ ?_ _); rotate_left; (first | omega | (simp <;> omega))) | ((with_reducible refine Below.setCell ?_ ?_ _); rotate_left; (first | omega | (simp <;> omega))) | (with_reducible refine below_drewN ?_ _) | (with_reducible refine Below.drew ?_) | ((with_reducible refine Below.step (by assumption) ?_ ?_); rotate_left; (first | omega | (simp <;> omega)))))
    go_wp2_with fail
    refine (S_copyFilm _ hs ht (RS.step hBw2 H1.out) (RS.step hBw2 H2.out)).mono ?_
    rintro e w9 ⟨P1, j1, P2, j2, rfl, u1, u2, ge1, ge2, hd, hb9⟩
    have hz9 := hb9.size
    obtain ⟨cc9, ff9⟩ := bcell (hb9.mono (show w.heap.size + 3 ≤ _ by first | omega | (simp <;> omega)))
    (try simp at hz9)
    have zz9 : w.heap.size + 1 + 1 < w9.heap.size := by omega
    have hB9 : Below w.heap.size w w9 := Below.trans hBw2 (hb9.mono hBw2.size)
    go_wp2
    rw [HV.out]
    refine bodyPost_ret (v := .tuple #[vFilm W H (.slice P1 s.length j1) (.slice P2 t.length j2), .bool false]) (by simp [results, Try.results73, go_sem, *]) rfl ⟨P1, j1, P2, j2, rfl, ?_, ?_, (fun x hx => by have := ge1 x hx; (try simp at this); omega), (fun x hx => by have := ge2 x hx; (try simp at this); omega), hd, (by repeat (first | (with_reducible exact Below.refl _ _) | (with_reducible exact hB9) | (with_reducible assumption) | ((with_reducible refine Below.alloc ?_ ?_ _); rotate_left; (first | omega | (simp <;> omega))) | ((with_reducible refine Below.setCell ?_ ?_ _); rotate_left; (first | omega | (simp <;> omega))) | (with_reducible refine below_drewN ?_ _) | (with_reducible refine Below.drew ?_) | ((with_reducible refine Below.step (by assumption) ?_ ?_); rotate_left; (first | omega | (simp <;> omega)))))⟩
    · exact (by repeat (first | (with_reducible exact u1) | (with_reducible refine OwnS.drew ?_) | (with_reducible refine OwnS.drewN ?_ _) | ((with_reducible refine OwnS.far ?_ ?_ _); rotate_left; (intro x hx; have := ge1 x hx; (try simp at this); simp; omega))))
    · exact (by repeat (first | (with_reducible exact u2) | (with_reducible refine OwnS.drew ?_) | (with_reducible refine OwnS.drewN ?_ _) | ((with_reducible refine OwnS.far ?_ ?_ _); rotate_left; (intro x hx; have := ge2 x hx; (try simp at this); simp; omega))))
  case inr.inr.inl =>
    have HV := Lib.hid (HVN.out q5.out)
    obtain ⟨⟨hW1, hW2⟩, ⟨hH1, hH2⟩, h144⟩ := validFilm_small q1
    obtain ⟨a, b, xn, yn, pn, qn, rfl, rfl, rfl, rfl, rfl, rfl, ⟨a1, a2⟩, ⟨b1, b2⟩, hxp, hyq, hp1, hq1, hsl, htl⟩ := film_nat q1 q2
    have hr : (pn : Int) * (qn : Int) = ((pn * qn : Nat) : Int) := by simp
    have hpq : pn * qn ≤ 12 * 12 := Nat.mul_le_mul (by omega) (by omega)
    have hpq1 : 1 ≤ pn * qn := Nat.mul_pos hp1 hq1
    rw [hr] at q3
    have hpw : IntKind.i64.wrap ((pn : Int) * (qn : Int)) = ((pn * qn : Nat) : Int) := by rw [hr]; exact IntWalk.i64_in _ (by omega)
    have HN := Lib.hid (show s.length = a * b ∧ t.length = a * b from ⟨hsl, htl⟩)
    clear hr hsl htl
    have hne : ((l.length : Int) != ((pn * qn : Nat) : Int)) = true := by rw [bne_iff_ne]; exact q3
    generalize pn * qn = N at *
    clear q3
    go_enter Try.func73, Try.ntmps73
    go_wp2_with fail
    refine (S_IsValidFilm _ (RS.step (by repeat (first | (with_reducible exact Below.refl _ _) | (with_reducible assumption) | ((with_reducible refine Below.alloc ?_ ?_ _); rotate_left; (first | omega | (simp <;> omega))) | ((with_reducible refine Below.setCell ?_ ?_ _); rotate_left; (first | omega | (simp <;> omega))) | (with_reducible refine below_drewN ?_ _) | (with_reducible refine Below.drew ?_) | ((with_reducible refine Below.step (by assumption) ?_ ?_); rotate_left; (first | omega | (simp <;> omega))))) H1.out) (RS.step (by repeat (first | (with_reducible exact Below.refl _ _) | (with_reducible assumption) | ((with_reducible refine Below.alloc ?_ ?_ _); rotate_left; (first | omega | (simp <;> omega))) | ((with_reducible refine Below.setCell ?_ ?_ _); rotate_left; (first | omega | (simp <;> omega))) | (with_reducible refine below_drewN ?_ _) | (with_reducible refine Below.drew ?_) | ((with_reducible refine Below.step (by assumption) ?_ ?_); rotate_left; (first | omega | (simp <;> omega))))) H2.out)).mono ?_
    rintro e w1 ⟨rfl, hbw1⟩
    have hzw1 := hbw1.size
    (try simp at hzw1)
    obtain ⟨ccw1, ffw1⟩ := bcell (hbw1.mono (show w.heap.size + 3 ≤ _ by first | omega | (simp <;> omega)))
    have zw10 : w.heap.size < w1.heap.size := (by omega); have zw11 : w.heap.size + 1 < w1.heap.size := (by omega); have zw12 : w.heap.size + 1 + 1 < w1.heap.size := (by omega)
    have hBw1 : Below w.heap.size w w1 := (by repeat (first | (with_reducible exact Below.refl _ _) | (with_reducible assumption) | ((with_reducible refine Below.alloc ?_ ?_ _); rotate_left; (first | omega | (simp <;> omega))) | ((with_reducible refine Below.setCell ?_ ?_ _); rotate_left; (first | omega | (simp <;> omega))) | (with_reducible refine below_drewN ?_ _) | (with_reducible refine Below.drew ?_) | ((with_reducible refine Below.step (by assumption) ?_ ?_); rotate_left; (first | omega | (simp <;> omega)))))
    go_wp2_with fail
    refine (S_inside _ ⟨hW1, hW2⟩ ⟨hH1, hH2⟩).mono ?_
    rintro e w2 ⟨rfl, hbw2⟩
    have hzw2 := hbw2.size
    (try simp at hzw2)
    obtain ⟨ccw2, ffw2⟩ := bcell (hbw2.mono (show w.heap.size + 3 ≤ _ by first | omega | (simp <;> omega)))
    have zw20 : w.heap.size < w2.heap.size := (by omega); have zw21 : w.heap.size + 1 < w2.heap.size := (by omega); have zw22 : w.heap.size + 1 + 1 < w2.heap.size := (by omega)
    have hBw2 : Below w.heap.size w w2 := (by repeat (first | (with_reducible exact Below.refl _ _) | (with_reducible assumption) | ((with_reducible refine Below.alloc ?_ ?_ _); rotate_left; (first | omega | (simp <;> omega))) | ((with_reducible refine Below.setCell ?_ ?_ _); rotate_left; (first | omega | (simp <;> omega))) | (with_reducible refine below_drewN ?_ _) | (with_reducible refine Below.drew ?_) | ((with_reducible refine Below.step (by assumption) ?_ ?_); rotate_left; (first | omega | (simp <;> omega)))))
    go_wp2_with fail
    refine (S_copyFilm _ hs ht (RS.step hBw2 H1.out) (RS.step hBw2 H2.out)).mono ?_
    rintro e w9 ⟨P1, j1, P2, j2, rfl, u1, u2, ge1, ge2, hd, hb9⟩
    have hz9 := hb9.size
    obtain ⟨cc9, ff9⟩ := bcell (hb9.mono (show w.heap.size + 3 ≤ _ by first | omega | (simp <;> omega)))
    (try simp at hz9)
    have zz9 : w.heap.size + 1 + 1 < w9.heap.size := by omega
    have hB9 : Below w.heap.size w w9 := Below.trans hBw2 (hb9.mono hBw2.size)
    go_wp2
    rw [HV.out]
    refine bodyPost_ret (v := .tuple #[vFilm a b (.slice P1 s.length j1) (.slice P2 t.length j2), .bool false]) (by simp [results, Try.results73, go_sem, *]) rfl ⟨P1, j1, P2, j2, rfl, ?_, ?_, (fun x hx => by have := ge1 x hx; (try simp at this); omega), (fun x hx => by have := ge2 x hx; (try simp at this); omega), hd, (by repeat (first | (with_reducible exact Below.refl _ _) | (with_reducible exact hB9) | (with_reducible assumption) | ((with_reducible refine Below.alloc ?_ ?_ _); rotate_left; (first | omega | (simp <;> omega))) | ((with_reducible refine Below.setCell ?_ ?_ _); rotate_left; (first | omega | (simp <;> omega))) | (with_reducible refine below_drewN ?_ _) | (with_reducible refine Below.drew ?_) | ((with_reducible refine Below.step (by assumption) ?_ ?_); rotate_left; (first | omega | (simp <;> omega)))))⟩
    · exact (by repeat (first | (with_reducible exact u1) | (with_reducible refine OwnS.drew ?_) | (with_reducible refine OwnS.drewN ?_ _) | ((with_reducible refine OwnS.far ?_ ?_ _); rotate_left; (intro x hx; have := ge1 x hx; (try simp at this); simp; omega))))
    · exact (by repeat (first | (with_reducible exact u2) | (with_reducible refine OwnS.drew ?_) | (with_reducible refine OwnS.drewN ?_ _) | ((with_reducible refine OwnS.far ?_ ?_ _); rotate_left; (intro x hx; have := ge2 x hx; (try simp at this); simp; omega))))
  case inr.inr.inr =>
    obtain ⟨⟨hW1, hW2⟩, ⟨hH1, hH2⟩, h144⟩ := validFilm_small q1
    obtain ⟨a, b, xn, yn, pn, qn, rfl, rfl, rfl, rfl, rfl, rfl, ⟨a1, a2⟩, ⟨b1, b2⟩, hxp, hyq, hp1, hq1, hsl, htl⟩ := film_nat q1 q2
    have hr : (pn : Int) * (qn : Int) = ((pn * qn : Nat) : Int) := by simp
    have hpq : pn * qn ≤ 12 * 12 := Nat.mul_le_mul (by omega) (by omega)
    have hpq1 : 1 ≤ pn * qn := Nat.mul_pos hp1 hq1
    rw [hr] at q3
    have hpw : IntKind.i64.wrap ((pn : Int) * (qn : Int)) = ((pn * qn : Nat) : Int) := by rw [hr]; exact IntWalk.i64_in _ (by omega)
    have HN := Lib.hid (show s.length = a * b ∧ t.length = a * b from ⟨hsl, htl⟩)
    clear hr hsl htl
    have hne : ((l.length : Int) != ((pn * qn : Nat) : Int)) = false := by rw [bne_eq_false_iff_eq]; exact q3
    have HLN : Hid (l.length = pn * qn) := by show l.length = pn * qn; omega
    have hll : l.length ≤ 144 := by omega
    obtain ⟨N, hNN⟩ : ∃ N, pn * qn = N := ⟨_, rfl⟩
    have hL0 : 0 < l.length := by omega
    rw [hNN] at hpw hne
    clear q3 hpq hpq1 hNN
    go_enter Try.func73, Try.ntmps73
    go_wp2_with fail
    refine (S_IsValidFilm _ (RS.step (by repeat (first | (with_reducible exact Below.refl _ _) | (with_reducible assumption) | ((with_reducible refine Below.alloc ?_ ?_ _); rotate_left; (first | omega | (simp <;> omega))) | ((with_reducible refine Below.setCell ?_ ?_ _); rotate_left; (first | omega | (simp <;> omega))) | (with_reducible refine below_drewN ?_ _) | (with_reducible refine Below.drew ?_) | ((with_reducible refine Below.step (by assumption) ?_ ?_); rotate_left; (first | omega | (simp <;> omega))))) H1.out) (RS.step (by repeat (first | (with_reducible exact Below.refl _ _) | (with_reducible assumption) | ((with_reducible refine Below.alloc ?_ ?_ _); rotate_left; (first | omega | (simp <;> omega))) | ((with_reducible refine Below.setCell ?_ ?_ _); rotate_left; (first | omega | (simp <;> omega))) | (with_reducible refine below_drewN ?_ _) | (with_reducible refine Below.drew ?_) | ((with_reducible refine Below.step (by assumption) ?_ ?_); rotate_left; (first | omega | (simp <;> omega))))) H2.out)).mono ?_
    rintro e w1 ⟨rfl, hbw1⟩
    have hzw1 := hbw1.size
    (try simp at hzw1)
    obtain ⟨ccw1, ffw1⟩ := bcell (hbw1.mono (show w.heap.size + 3 ≤ _ by first | omega | (simp <;> omega)))
    have zw10 : w.heap.size < w1.heap.size := (by omega); have zw11 : w.heap.size + 1 < w1.heap.size := (by omega); have zw12 : w.heap.size + 1 + 1 < w1.heap.size := (by omega)
    have hBw1 : Below w.heap.size w w1 := (by repeat (first | (with_reducible exact Below.refl _ _) | (with_reducible assumption) | ((with_reducible refine Below.alloc ?_ ?_ _); rotate_left; (first | omega | (simp <;> omega))) | ((with_reducible refine Below.setCell ?_ ?_ _); rotate_left; (first | omega | (simp <;> omega))) | (with_reducible refine below_drewN ?_ _) | (with_reducible refine Below.drew ?_) | ((with_reducible refine Below.step (by assumption) ?_ ?_); rotate_left; (first | omega | (simp <;> omega)))))
    go_wp2_with fail
    refine (S_inside _ ⟨hW1, hW2⟩ ⟨hH1, hH2⟩).mono ?_
    rintro e w2 ⟨rfl, hbw2⟩
    have hzw2 := hbw2.size
    (try simp at hzw2)
    obtain ⟨ccw2, ffw2⟩ := bcell (hbw2.mono (show w.heap.size + 3 ≤ _ by first | omega | (simp <;> omega)))
    have zw20 : w.heap.size < w2.heap.size := (by omega); have zw21 : w.heap.size + 1 < w2.heap.size := (by omega); have zw22 : w.heap.size + 1 + 1 < w2.heap.size := (by omega)
    have hBw2 : Below w.heap.size w w2 := (by repeat (first | (with_reducible exact Below.refl _ _) | (with_reducible assumption) | ((with_reducible refine Below.alloc ?_ ?_ _); rotate_left; (first | omega | (simp <;> omega))) | ((with_reducible refine Below.setCell ?_ ?_ _); rotate_left; (first | omega | (simp <;> omega))) | (with_reducible refine below_drewN ?_ _) | (with_reducible refine Below.drew ?_) | ((with_reducible refine Below.step (by assumption) ?_ ?_); rotate_left; (first | omega | (simp <;> omega)))))
    go_wp2_with fail
    refine (S_copyFilm _ hs ht (RS.step hBw2 H1.out) (RS.step hBw2 H2.out)).mono ?_
    rintro e w3 ⟨P1, k1, P2, k2, rfl, o1, o2, ge1, ge2, hd, hbw3⟩
    have hzw3 := hbw3.size
    (try simp at hzw3)
    obtain ⟨ccw3, ffw3⟩ := bcell (hbw3.mono (show w.heap.size + 3 ≤ _ by first | omega | (simp <;> omega)))
    have zw30 : w.heap.size < w3.heap.size := (by omega); have zw31 : w.heap.size + 1 < w3.heap.size := (by omega); have zw32 : w.heap.size + 1 + 1 < w3.heap.size := (by omega)
    have hBw3 : Below w.heap.size w w3 := (by repeat (first | (with_reducible exact Below.refl _ _) | (with_reducible assumption) | ((with_reducible refine Below.alloc ?_ ?_ _); rotate_left; (first | omega | (simp <;> omega))) | ((with_reducible refine Below.setCell ?_ ?_ _); rotate_left; (first | omega | (simp <;> omega))) | (with_reducible refine below_drewN ?_ _) | (with_reducible refine Below.drew ?_) | ((with_reducible refine Below.step (by assumption) ?_ ?_); rotate_left; (first | omega | (simp <;> omega)))))
    have hsp : 0 < s.length := by rw [HN.out.1]; exact Nat.mul_pos a1 b1
    obtain ⟨g1, d1, rfl, o1, k1a, k1b⟩ := OwnS.block o1 hsp
    obtain ⟨g2, d2, rfl, o2, k2a, k2b⟩ := OwnS.block o2 (by rw [HN.out.2]; exact Nat.mul_pos a1 b1)
    have hg1 := ge1 g1 (by simp [gOf])
    have hg2 := ge2 g2 (by simp [gOf])
    have hg12 : g1 ≠ g2 := fun e => hd g1 (by simp [gOf]) (by simp [gOf, e])
    have hl1 := o1.lt
    have hl2 := o2.lt
    clear ge1 ge2 hd
    unfold maxLen at k1b k2b
    go_wp2_with fail
    go_loopw [9, 10, 11, 37] (fun _ _ _ i wr => ∃ k : Nat, k ≤ l.length ∧ i = .int .i64 k ∧ allIn (l.take k) 0 256 = true ∧ okTo (bAt a xn yn pn) always (atI l) s t k = true ∧ Own wr g1 3 (ints (pixTo (bAt a xn yn pn) always (atI l) s k) ++ d1) ∧ Own wr g2 4 (bools (donTo (bAt a xn yn pn) always t k) ++ d2) ∧ Only (w3.heap.size + 1) [g1, g2] (w3.alloc (.cells #[.int .i64 a, .int .i64 b, .slice (some ⟨g1, 0, none⟩) s.length k1, .slice (some ⟨g2, 0, none⟩) t.length k2] 98)) wr) (fun _ _ _ i _ => l.length - (intOf i).toNat)
    case atStart => exact ⟨0, Nat.zero_le _, rfl, rfl, rfl, o1.alloc _, o2.alloc _, Only.refl _ _ _⟩
    case round =>
      obtain ⟨k, hk, rfl, hal, hok, r1, r2, hO⟩ := hrel
      have HST := Lib.hid hok
      have HAL := Lib.hid hal
      clear hok hal
      have hbw : Below w.heap.size w wr := Below.trans (Below.alloc hBw3 (by omega) _) (hO.below (by omega) (fun x hx => by simp at hx; omega))
      have hOz := hO.size
      (try simp at hOz)
      have hr0 : ∀ j, j < 4 → ((w3.alloc (.cells #[.int .i64 a, .int .i64 b, .slice (some ⟨g1, 0, none⟩) s.length k1, .slice (some ⟨g2, 0, none⟩) t.length k2] 98)).cell? ⟨w.heap.size + 1 + 1, j, none⟩).isSome = true := by
        intro j hj
        match j, hj with
        | 0, _ => go_simp
        | 1, _ => go_simp
        | 2, _ => go_simp
        | 3, _ => go_simp
      obtain ⟨oc4, of4⟩ := hO.cell (w.heap.size + 1 + 1) (by omega) (by simp; omega)
      obtain ⟨ue0, er0⟩ : ∃ u, wr.cell? ⟨w.heap.size + 1 + 1, 0, none⟩ = some u := Option.isSome_iff_exists.1 (by rw [oc4 0]; exact hr0 0 (by omega))
      obtain ⟨ue1, er1⟩ : ∃ u, wr.cell? ⟨w.heap.size + 1 + 1, 1, none⟩ = some u := Option.isSome_iff_exists.1 (by rw [oc4 1]; exact hr0 1 (by omega))
      obtain ⟨ue2, er2⟩ : ∃ u, wr.cell? ⟨w.heap.size + 1 + 1, 2, none⟩ = some u := Option.isSome_iff_exists.1 (by rw [oc4 2]; exact hr0 2 (by omega))
      obtain ⟨ue3, er3⟩ : ∃ u, wr.cell? ⟨w.heap.size + 1 + 1, 3, none⟩ = some u := Option.isSome_iff_exists.1 (by rw [oc4 3]; exact hr0 3 (by omega))
      have erf : ∀ j, wr.frozen? ⟨w.heap.size + 1 + 1, j, none⟩ = false := by intro j; rw [of4 j]; go_simp
      obtain ⟨oc0, of0⟩ := hO.cell w3.heap.size (by omega) (by simp; omega)
      obtain ⟨oc1, of1⟩ := hO.cell (w.heap.size + 1) (by omega) (by simp; omega)
      obtain ⟨oc2, of2⟩ := hO.cell w.heap.size (by omega) (by simp; omega)
      have e00 : wr.cell? ⟨w3.heap.size, 0, none⟩ = some (.int .i64 a) := by rw [oc0]; simp
      have e01 : wr.cell? ⟨w3.heap.size, 1, none⟩ = some (.int .i64 b) := by rw [oc0]; simp
      have e02 : wr.cell? ⟨w3.heap.size, 2, none⟩ = some (.slice (some ⟨g1, 0, none⟩) s.length k1) := by rw [oc0]; simp
      have e03 : wr.cell? ⟨w3.heap.size, 3, none⟩ = some (.slice (some ⟨g2, 0, none⟩) t.length k2) := by rw [oc0]; simp
      have hb0 : (w3.alloc (.cells #[.int .i64 a, .int .i64 b, .slice (some ⟨g1, 0, none⟩) s.length k1, .slice (some ⟨g2, 0, none⟩) t.length k2] 98)).cell? ⟨w.heap.size + 1, 0, none⟩ = some (.int .i64 xn) := by go_simp
      have hb1 : (w3.alloc (.cells #[.int .i64 a, .int .i64 b, .slice (some ⟨g1, 0, none⟩) s.length k1, .slice (some ⟨g2, 0, none⟩) t.length k2] 98)).cell? ⟨w.heap.size + 1, 1, none⟩ = some (.int .i64 yn) := by go_simp
      have hb2 : (w3.alloc (.cells #[.int .i64 a, .int .i64 b, .slice (some ⟨g1, 0, none⟩) s.length k1, .slice (some ⟨g2, 0, none⟩) t.length k2] 98)).cell? ⟨w.heap.size + 1, 2, none⟩ = some (.int .i64 pn) := by go_simp
      have hf0 : (w3.alloc (.cells #[.int .i64 a, .int .i64 b, .slice (some ⟨g1, 0, none⟩) s.length k1, .slice (some ⟨g2, 0, none⟩) t.length k2] 98)).cell? ⟨w.heap.size, 0, none⟩ = some (.int .i64 a) := by go_simp
      have hf1 : (w3.alloc (.cells #[.int .i64 a, .int .i64 b, .slice (some ⟨g1, 0, none⟩) s.length k1, .slice (some ⟨g2, 0, none⟩) t.length k2] 98)).cell? ⟨w.heap.size, 1, none⟩ = some (.int .i64 b) := by go_simp
      have hf2 : (w3.alloc (.cells #[.int .i64 a, .int .i64 b, .slice (some ⟨g1, 0, none⟩) s.length k1, .slice (some ⟨g2, 0, none⟩) t.length k2] 98)).cell? ⟨w.heap.size, 2, none⟩ = some (.slice A s.length c) := by go_simp
      have hf3 : (w3.alloc (.cells #[.int .i64 a, .int .i64 b, .slice (some ⟨g1, 0, none⟩) s.length k1, .slice (some ⟨g2, 0, none⟩) t.length k2] 98)).cell? ⟨w.heap.size, 3, none⟩ = some (.slice B t.length d) := by go_simp
      have e10 := (oc1 0).trans hb0
      have e11 := (oc1 1).trans hb1
      have e12 := (oc1 2).trans hb2
      have e20 := (oc2 0).trans hf0
      have e21 := (oc2 1).trans hf1
      have e22 := (oc2 2).trans hf2
      have e23 := (oc2 3).trans hf3
      have HR1 := Lib.hid r1
      have HR2 := Lib.hid r2
      have HO := Lib.hid hO
      have HBW := Lib.hid hbw
      clear r1 r2 hO hbw oc0 of0 oc1 of1 oc2 of2 oc4 of4 hr0 hb0 hb1 hb2 hf0 hf1 hf2 hf3
      by_cases hlt : k < l.length
      · have HB1 : Hid (Below w.heap.size w wr) := HBW
        obtain ⟨b1', o1', rfl, hbh1, hcell1⟩ := (RS.step HBW.out H1.out).open_.2.2 (by omega)
        obtain ⟨b2', o2', rfl, hbh2, hcell2⟩ := (RS.step HBW.out H2.out).open_.2.2 (by rw [HN.out.2]; exact Nat.mul_pos a1 b1)
        obtain ⟨b3', o3', rfl, hbh3, hcell3⟩ := (RS.step HBW.out H3.out).open_.2.2 (by omega)
        have hkn : k < pn * qn := by have := HLN.out; omega
        obtain ⟨hat, hkd, hkm⟩ := bAt_lt (a := a) (b := b) (x := xn) (y := yn) hp1 hxp hyq hkn
        obtain ⟨D, hD⟩ : ∃ D, k / pn = D := ⟨_, rfl⟩
        obtain ⟨M, hM⟩ : ∃ M, k % pn = M := ⟨_, rfl⟩
        obtain ⟨dv1, dv2, dv3⟩ := divs_of hD hM hp1
        have HATE : Hid (bAt a xn yn pn k = (yn + D) * a + (xn + M)) := by show _ = _; rw [bAt, hD, hM]
        obtain ⟨Z, hZ⟩ : ∃ Z, bAt a xn yn pn k = Z := ⟨_, rfl⟩
        have hma : (yn + D) * a ≤ 12 * 12 := Nat.mul_le_mul (by omega) (by omega)
        obtain ⟨R, hR⟩ : ∃ R, (yn + D) * a = R := ⟨_, rfl⟩
        have hZR : R + (xn + M) = Z := by rw [← hZ, HATE.out, hR]
        have hrc : ((yn : Int) + (D : Int)) * (a : Int) = (R : Int) := by rw [← hR]; simp
        have hsZ : Z < s.length := by rw [HN.out.1, ← hZ]; exact hat
        have htZ : Z < t.length := by rw [HN.out.2, ← hZ]; exact hat
        have x1 : wr.cell? ⟨b1', o1' + Z, none⟩ = some (.int .i64 s[Z]) := by rw [hcell1 Z (by omega), ints_at hsZ]
        have x2 : wr.cell? ⟨b2', o2' + Z, none⟩ = some (.bool t[Z]) := by rw [hcell2 Z (by omega), bools_at htZ]
        have x3 : wr.cell? ⟨b3', o3' + k, none⟩ = some (.int .i64 l[k]) := by rw [hcell3 k (by omega), ints_at hlt]
        have hv : atI l k = l[k] := getD_at _ _
        have HS1 : Hid ((ints (pixTo (bAt a xn yn pn) always (atI l) s k)).set Z (.int .i64 l[k]) = ints (pixTo (bAt a xn yn pn) always (atI l) s (k + 1))) := by show _ = _; rw [← hv, ← hZ]; exact pixTo_set rfl
        have HS2 : Hid ((bools (donTo (bAt a xn yn pn) always t k)).set Z (.bool true) = bools (donTo (bAt a xn yn pn) always t (k + 1))) := by show _ = _; rw [← hZ]; exact donTo_set rfl
        have HP2 : Hid ((t[Z] = true → s[Z] = l[k]) → okTo (bAt a xn yn pn) always (atI l) s t (k + 1) = true) := fun hy => okTo_succ HST.out (by subst hZ; exact okAt_is (k := k) hsZ htZ (fun h => by rw [hv]; exact hy h))
        have HPN : Hid (t[Z] = true → ¬ s[Z] = l[k] → okTo (bAt a xn yn pn) always (atI l) s t l.length = false) := fun h1 h2 => okTo_false hlt (by subst hZ; exact okAt_not (k := k) rfl hsZ htZ h1 (by rw [hv]; exact h2))
        have HA1 : Hid (inB l[k] 0 256 = true → allIn (l.take (k + 1)) 0 256 = true) := fun h => allIn_take HAL.out hlt h
        have HA0 : Hid (inB l[k] 0 256 = false → allIn l 0 256 = false) := fun h => allIn_at hlt h
        have f1 : wr.frozen? ⟨g1, Z, none⟩ = false := HR1.out.frozen _
        have f2 : wr.frozen? ⟨g2, Z, none⟩ = false := HR2.out.frozen _
        have hml1 : Z < (ints (pixTo (bAt a xn yn pn) always (atI l) s k)).length := by simp [pixTo_len]; omega
        have hml2 : Z < (bools (donTo (bAt a xn yn pn) always t k)).length := by simp [donTo_len]; omega
        have HM1 := Lib.hid hml1
        have HM2 := Lib.hid hml2
        obtain ⟨uu1, x5⟩ : ∃ u, wr.cell? ⟨g1, Z, none⟩ = some u := ⟨_, by rw [HR1.out.cell, List.getElem?_append_left hml1, List.getElem?_eq_getElem hml1]⟩
        obtain ⟨uu2, x6⟩ : ∃ u, wr.cell? ⟨g2, Z, none⟩ = some u := ⟨_, by rw [HR2.out.cell, List.getElem?_append_left hml2, List.getElem?_eq_getElem hml2]⟩
        have HVB : Hid (putOk a b s t xn yn pn qn l = false → PutR a b s.length t.length (putOk a b s t xn yn pn qn l) (putS a b s t xn yn pn qn l) (putT a b s t xn yn pn qn l) w = PutR a b s.length t.length false s t w) := HVN
        have HQ5 : Hid (putOk a b s t xn yn pn qn l = (allIn l 0 256 && okTo (bAt a xn yn pn) always (atI l) s t l.length)) := q5
        clear hcell1 hcell2 hcell3 hml1 hml2 hv hat hma hZ hR
        have i0 : (0 : Int) ≤ k := by omega
        have i1 : (k : Int) < l.length := by omega
        have i2 : (0 : Int) ≤ Z := by omega
        have i3 : (Z : Int) < s.length := by omega
        have i4 : (Z : Int) < t.length := by omega
        have y1' : IntKind.i64.wrap (D : Int) = D := IntWalk.i64_in _ (by omega)
        have y2' : IntKind.i64.wrap ((yn : Int) + (D : Int)) = (yn : Int) + (D : Int) := IntWalk.i64_in _ (by omega)
        have y3' : IntKind.i64.wrap (R : Int) = R := IntWalk.i64_in _ (by omega)
        have y4' : IntKind.i64.wrap ((R : Int) + (xn : Int)) = (R : Int) + (xn : Int) := IntWalk.i64_in _ (by omega)
        have y5' : IntKind.i64.wrap (M : Int) = M := IntWalk.i64_in _ (by omega)
        have y6' : IntKind.i64.wrap ((R : Int) + (xn : Int) + (M : Int)) = (Z : Int) := by rw [show (R : Int) + (xn : Int) + (M : Int) = (Z : Int) by omega]; exact IntWalk.i64_in _ (by omega)
        have y0' : IntKind.i64.wrap ((k : Int) + 1) = (k : Int) + 1 := IntWalk.i64_in _ (by omega)
        have pn0 : ¬ pn = 0 := by omega
        have hB7 := hBw3
        generalize s[Z] = v1 at *
        generalize l[k] = v2 at *
        generalize t[Z] = v3 at *
        have m1 : ¬ g1 = w3.heap.size := by omega
        have m2 : ¬ g2 = w3.heap.size := by omega
        have m3 : ¬ w3.heap.size = g1 := by omega
        have m4 : ¬ g1 = g2 := hg12
        cases hin : inB v2 0 256
        case false =>
          have HV := Lib.hid (HVB.out (by rw [HQ5.out, HA0.out hin]; rfl))
          clear x5 x6 f1 f2
          go_wp2_with fail
          go_quiet (fail)
          have hBq : Below w.heap.size w (wr.drewN nq) := below_drewN HBW.out nq
          go_wp2_with (go_at_call 117; refine (S_in _ _ _ _).mono ?_; rintro e w' ⟨rfl, rfl⟩)
          refine (S_copyFilm _ hs ht (RS.step hBq H1.out) (RS.step hBq H2.out)).mono ?_
          rintro e w9 ⟨P1, j1, P2, j2, rfl, u1, u2, ge1, ge2, hd, hb9⟩
          have hz9 := hb9.size
          obtain ⟨cc9, ff9⟩ := bcell (hb9.mono (show w.heap.size + 3 ≤ _ by first | omega | (simp <;> omega)))
          (try simp at hz9)
          have zz9 : w.heap.size + 1 + 1 < w9.heap.size := by omega
          have hB9 : Below w.heap.size w w9 := Below.trans hBq (hb9.mono hBq.size)
          go_wp2
          rw [HV.out]
          refine bodyPost_ret (v := .tuple #[vFilm a b (.slice P1 s.length j1) (.slice P2 t.length j2), .bool false]) (by simp [results, Try.results73, go_sem, *]) rfl ⟨P1, j1, P2, j2, rfl, ?_, ?_, (fun x hx => by have := ge1 x hx; (try simp at this); omega), (fun x hx => by have := ge2 x hx; (try simp at this); omega), hd, (by repeat (first | (with_reducible exact Below.refl _ _) | (with_reducible exact hB9) | (with_reducible assumption) | ((with_reducible refine Below.alloc ?_ ?_ _); rotate_left; (first | omega | (simp <;> omega))) | ((with_reducible refine Below.setCell ?_ ?_ _); rotate_left; (first | omega | (simp <;> omega))) | (with_reducible refine below_drewN ?_ _) | (with_reducible refine Below.drew ?_) | ((with_reducible refine Below.step (by assumption) ?_ ?_); rotate_left; (first | omega | (simp <;> omega)))))⟩
          · exact (by repeat (first | (with_reducible exact u1) | (with_reducible refine OwnS.drew ?_) | (with_reducible refine OwnS.drewN ?_ _) | ((with_reducible refine OwnS.far ?_ ?_ _); rotate_left; (intro x hx; have := ge1 x hx; (try simp at this); simp; omega))))
          · exact (by repeat (first | (with_reducible exact u2) | (with_reducible refine OwnS.drew ?_) | (with_reducible refine OwnS.drewN ?_ _) | ((with_reducible refine OwnS.far ?_ ?_ _); rotate_left; (intro x hx; have := ge2 x hx; (try simp at this); simp; omega))))
        case true =>
          have HAT := Lib.hid (HA1.out hin)
          by_cases hc : v3 = true ∧ ¬ v1 = v2
          · obtain ⟨rfl, hne2⟩ := hc
            have hne3 : (v1 != v2) = true := by simpa using hne2
            have HV := Lib.hid (HVB.out (by rw [HQ5.out, HPN.out rfl hne2, Bool.and_false]))
            clear hne2 x5 x6 f1 f2
            go_wp2_with fail
            go_quiet (fail)
            have hBq : Below w.heap.size w (wr.drewN nq) := below_drewN HBW.out nq
            go_wp2_with (go_at_call 117; refine (S_in _ _ _ _).mono ?_; rintro e w' ⟨rfl, rfl⟩)
            refine (S_copyFilm _ hs ht (RS.step hBq H1.out) (RS.step hBq H2.out)).mono ?_
            rintro e w9 ⟨P1, j1, P2, j2, rfl, u1, u2, ge1, ge2, hd, hb9⟩
            have hz9 := hb9.size
            obtain ⟨cc9, ff9⟩ := bcell (hb9.mono (show w.heap.size + 3 ≤ _ by first | omega | (simp <;> omega)))
            (try simp at hz9)
            have zz9 : w.heap.size + 1 + 1 < w9.heap.size := by omega
            have hB9 : Below w.heap.size w w9 := Below.trans hBq (hb9.mono hBq.size)
            go_wp2
            rw [HV.out]
            refine bodyPost_ret (v := .tuple #[vFilm a b (.slice P1 s.length j1) (.slice P2 t.length j2), .bool false]) (by simp [results, Try.results73, go_sem, *]) rfl ⟨P1, j1, P2, j2, rfl, ?_, ?_, (fun x hx => by have := ge1 x hx; (try simp at this); omega), (fun x hx => by have := ge2 x hx; (try simp at this); omega), hd, (by repeat (first | (with_reducible exact Below.refl _ _) | (with_reducible exact hB9) | (with_reducible assumption) | ((with_reducible refine Below.alloc ?_ ?_ _); rotate_left; (first | omega | (simp <;> omega))) | ((with_reducible refine Below.setCell ?_ ?_ _); rotate_left; (first | omega | (simp <;> omega))) | (with_reducible refine below_drewN ?_ _) | (with_reducible refine Below.drew ?_) | ((with_reducible refine Below.step (by assumption) ?_ ?_); rotate_left; (first | omega | (simp <;> omega)))))⟩
            · exact (by repeat (first | (with_reducible exact u1) | (with_reducible refine OwnS.drew ?_) | (with_reducible refine OwnS.drewN ?_ _) | ((with_reducible refine OwnS.far ?_ ?_ _); rotate_left; (intro x hx; have := ge1 x hx; (try simp at this); simp; omega))))
            · exact (by repeat (first | (with_reducible exact u2) | (with_reducible refine OwnS.drew ?_) | (with_reducible refine OwnS.drewN ?_ _) | ((with_reducible refine OwnS.far ?_ ?_ _); rotate_left; (intro x hx; have := ge2 x hx; (try simp at this); simp; omega))))
          · have hcc : v3 = false ∨ (v3 = true ∧ v1 = v2) := by
              cases v3
              · exact Or.inl rfl
              · exact Or.inr ⟨rfl, by by_cases e : v1 = v2; exact e; exact absurd ⟨rfl, e⟩ hc⟩
            have E3 := Lib.hid (HP2.out (fun h => by by_cases e : v1 = v2; exact e; exact absurd ⟨h, e⟩ hc))
            clear hc er0 er1 er2 er3 erf
            rcases hcc with rfl | ⟨rfl, rfl⟩
            · go_wp2_with fail
              go_quiet (fail)
              go_wp2_with (go_at_call 117; refine (S_in _ _ _ _).mono ?_; rintro e w' ⟨rfl, rfl⟩)
              go_roundw
              case rel => exact ⟨k + 1, by omega, by go_num, HAT.out, E3.out, by rw [← HS1.out]; exact Own.far (Own.set_left (Own.drewN HR1.out _) _ HM1.out _) hg12 _, by rw [← HS2.out]; exact Own.set_left (Own.far (Own.drewN HR2.out _) (fun e => hg12 e.symm) _) _ HM2.out _, Only.setCell (p := ⟨g2, Z, none⟩) (Only.setCell (p := ⟨g1, Z, none⟩) (Only.drewN HO.out _) (by simp) _) (by simp) _⟩
              case measure => simp [intOf]; omega
            · have hvv : (v1 != v1) = false := by simp
              go_wp2_with fail
              go_quiet (fail)
              go_wp2_with (go_at_call 117; refine (S_in _ _ _ _).mono ?_; rintro e w' ⟨rfl, rfl⟩)
              go_roundw
              case rel => exact ⟨k + 1, by omega, by go_num, HAT.out, E3.out, by rw [← HS1.out]; exact Own.far (Own.set_left (Own.drewN HR1.out _) _ HM1.out _) hg12 _, by rw [← HS2.out]; exact Own.set_left (Own.far (Own.drewN HR2.out _) (fun e => hg12 e.symm) _) _ HM2.out _, Only.setCell (p := ⟨g2, Z, none⟩) (Only.setCell (p := ⟨g1, Z, none⟩) (Only.drewN HO.out _) (by simp) _) (by simp) _⟩
              case measure => simp [intOf]; omega
      · obtain rfl : k = l.length := by omega
        have HAI : Hid ((allIn l 0 256 && okTo (bAt a xn yn pn) always (atI l) s t l.length) = okTo (bAt a xn yn pn) always (atI l) s t l.length) := by show _ = _; have := HAL.out; rw [List.take_of_length_le (Nat.le_refl _)] at this; rw [this]; rfl
        have HV : Hid (PutR a b s.length t.length (putOk a b s t xn yn pn qn l) (putS a b s t xn yn pn qn l) (putT a b s t xn yn pn qn l) w = PutR a b s.length t.length true (pixTo (bAt a xn yn pn) always (atI l) s l.length) (donTo (bAt a xn yn pn) always t l.length) w) := by
          have hq5 : putOk a b s t xn yn pn qn l = (allIn l 0 256 && okTo (bAt a xn yn pn) always (atI l) s t l.length) := q5.out
          have hok : putOk a b s t xn yn pn qn l = true := by rw [hq5, HAI.out]; exact HST.out
          show _ = _
          rw [putS, putT, hok]; rfl
        have m1 : OwnS wr 1 (some ⟨g1, 0, none⟩) s.length k1 3 (ints (pixTo (bAt a xn yn pn) always (atI l) s l.length)) := OwnS.of_block HR1.out (by rw [List.length_map, Nat.mul_one]; exact pixTo_len _ _) k1a (by unfold maxLen; omega)
        have m2 : OwnS wr 1 (some ⟨g2, 0, none⟩) t.length k2 4 (bools (donTo (bAt a xn yn pn) always t l.length)) := OwnS.of_block HR2.out (by rw [List.length_map, Nat.mul_one]; exact donTo_len _ _) k2a (by unfold maxLen; omega)
        go_wp2
        rw [HV.out]
        refine bodyPost_ret (v := .tuple #[vFilm a b (.slice (some ⟨g1, 0, none⟩) s.length k1) (.slice (some ⟨g2, 0, none⟩) t.length k2), .bool true]) (by simp [results, Try.results73, go_sem, *]) rfl ?_
        refine ⟨_, _, _, _, rfl, ?_, ?_, (fun x hx => by simp [gOf] at hx; omega), (fun x hx => by simp [gOf] at hx; omega), (fun x hx hy => by simp [gOf] at hx hy; omega), (by repeat (first | (with_reducible exact Below.refl _ _) | (with_reducible exact HBW.out) | (with_reducible assumption) | ((with_reducible refine Below.alloc ?_ ?_ _); rotate_left; (first | omega | (simp <;> omega))) | ((with_reducible refine Below.setCell ?_ ?_ _); rotate_left; (first | omega | (simp <;> omega))) | (with_reducible refine below_drewN ?_ _) | (with_reducible refine Below.drew ?_) | ((with_reducible refine Below.step (by assumption) ?_ ?_); rotate_left; (first | omega | (simp <;> omega)))))⟩
        · exact (by repeat (first | (with_reducible exact m1) | (with_reducible refine OwnS.drew ?_) | (with_reducible refine OwnS.drewN ?_ _) | ((with_reducible refine OwnS.far ?_ ?_ _); rotate_left; (intro x hx; simp [gOf] at hx; simp; omega))))
        · exact (by repeat (first | (with_reducible exact m2) | (with_reducible refine OwnS.drew ?_) | (with_reducible refine OwnS.drewN ?_ _) | ((with_reducible refine OwnS.far ?_ ?_ _); rotate_left; (intro x hx; simp [gOf] at hx; simp; omega))))
end Go.Proofs.Ythfnldjldfkmnaa
