/- MADE BY PROGRAM (genadd.py). AddSample of the reference. -/
import Derived.Test.YthfnldjldfkmnaaAddS
import Derived.Test.YthfnldjldfkmnaaCopies
import Derived.Test.YthfnldjldfkmnaaMerge
namespace Go.Proofs.Ythfnldjldfkmnaa
open Go.RowKit
set_option linter.unusedVariables false
set_option maxRecDepth 100000
set_option maxHeartbeats 16000000 in
theorem S_AddSample {W H k r x y tt u v color : Int} {A B : Option Addr} {c d : Nat} {s t : List Int} (w : World) (hs : s.length ≤ 1048576) (ht : t.length ≤ 1048576) (h : RS w 1 A s.length c (ints s)) (h2 : RS w 1 B t.length d (ints t)) :
    Calls Try.prog 36 #[vAccum W H (.slice A s.length c) (.slice B t.length d), vFilter k r, vSample x y tt u v, .int .i64 color] w (AddR W H s.length t.length (addOk W H s t k r x y color) (addS W H s t k r x y color) (addT W H s t k r x y color) w) := by
  have H1 := Lib.hid h
  have H2 := Lib.hid h2
  clear h h2
  have HVN : Hid (addOk W H s t k r x y color = false → AddR W H s.length t.length (addOk W H s t k r x y color) (addS W H s t k r x y color) (addT W H s t k r x y color) w = AddR W H s.length t.length false s t w) := fun hf => by rw [addS, addT, hf]; rfl
  rcases add_ways W H s t k r x y color with ⟨q1, q6⟩ | ⟨q1, q2, q6⟩ | ⟨q1, q2, q3, q6⟩ | ⟨q1, q2, q3, q4, q6⟩ | ⟨q1, q2, q3, q4, q5, q6⟩ | ⟨q1, q2, q3, q4, q5, q6⟩
  case inl =>
    have HV := Lib.hid (HVN.out q6.out)
    go_enter Try.func36, Try.ntmps36
    go_wp2_with fail
    refine (S_IsValidAccum _ (RS.step (by repeat (first | (with_reducible exact Below.refl _ _) | (with_reducible assumption) | ((with_reducible refine Below.alloc ?_ ?_ _); rotate_left; (first | omega | (simp <;> omega))) | ((with_reducible refine Below.setCell ?_ ?_ _); rotate_left; (first | omega | (simp <;> omega))) | (with_reducible refine below_drewN ?_ _) | (with_reducible refine Below.drew ?_) | ((with_reducible refine Below.step (by assumption) ?_ ?_); rotate_left; (first | omega | (simp <;> omega))))) H1.out) (RS.step (by repeat (first | (with_reducible exact Below.refl _ _) | (with_reducible assumption) | ((with_reducible refine Below.alloc ?_ ?_ _); rotate_left; (first | omega | (simp <;> omega))) | ((with_reducible refine Below.setCell ?_ ?_ _); rotate_left; (first | omega | (simp <;> omega))) | (with_reducible refine below_drewN ?_ _) | (with_reducible refine Below.drew ?_) | ((with_reducible refine Below.step (by assumption) ?_ ?_); rotate_left; (first | omega | (simp <;> omega))))) H2.out)).mono ?_
    rintro e w1 ⟨rfl, hbw1⟩
    have hzw1 := hbw1.size
    (try simp at hzw1)
    obtain ⟨ccw1, ffw1⟩ := bcell (hbw1.mono (show w.heap.size + 4 ≤ _ by first | omega | (simp <;> omega)))
    have zw10 : w.heap.size < w1.heap.size := by omega
    have zw11 : w.heap.size + 1 < w1.heap.size := by omega
    have zw12 : w.heap.size + 1 + 1 < w1.heap.size := by omega
    have zw13 : w.heap.size + 1 + 1 + 1 < w1.heap.size := by omega
    have hBw1 : Below w.heap.size w w1 := (by repeat (first | (with_reducible exact Below.refl _ _) | (with_reducible assumption) | ((with_reducible refine Below.alloc ?_ ?_ _); rotate_left; (first | omega | (simp <;> omega))) | ((with_reducible refine Below.setCell ?_ ?_ _); rotate_left; (first | omega | (simp <;> omega))) | (with_reducible refine below_drewN ?_ _) | (with_reducible refine Below.drew ?_) | ((with_reducible refine Below.step (by assumption) ?_ ?_); rotate_left; (first | omega | (simp <;> omega)))))
    go_wp2_with (go_at_call 117; refine (S_in _ _ _ _).mono ?_; rintro e w' ⟨rfl, rfl⟩)
    refine (S_copyAccum _ hs ht (RS.step hBw1 H1.out) (RS.step hBw1 H2.out)).mono ?_
    rintro e w9 ⟨P1, j1, P2, j2, rfl, u1, u2, ge1, ge2, hd, hb9⟩
    have hz9 := hb9.size
    (try simp at hz9)
    obtain ⟨cc9, ff9⟩ := bcell (hb9.mono (show w.heap.size + 4 ≤ _ by first | omega | (simp <;> omega)))
    have zz9 : w.heap.size + 1 + 1 + 1 < w9.heap.size := by omega
    have hB9 : Below w.heap.size w w9 := Below.trans hBw1 (hb9.mono hBw1.size)
    go_wp2
    rw [HV.out]
    refine bodyPost_ret (v := .tuple #[vAccum W H (.slice P1 s.length j1) (.slice P2 t.length j2), .bool false]) (by simp [results, Try.results36, go_sem, *]) rfl ⟨P1, j1, P2, j2, rfl, ?_, ?_, (fun x hx => by have := ge1 x hx; (try simp at this); omega), (fun x hx => by have := ge2 x hx; (try simp at this); omega), hd, (by repeat (first | (with_reducible exact Below.refl _ _) | (with_reducible exact hB9) | (with_reducible assumption) | ((with_reducible refine Below.alloc ?_ ?_ _); rotate_left; (first | omega | (simp <;> omega))) | ((with_reducible refine Below.setCell ?_ ?_ _); rotate_left; (first | omega | (simp <;> omega))) | (with_reducible refine below_drewN ?_ _) | (with_reducible refine Below.drew ?_) | ((with_reducible refine Below.step (by assumption) ?_ ?_); rotate_left; (first | omega | (simp <;> omega)))))⟩
    · exact (by repeat (first | (with_reducible exact u1) | (with_reducible refine OwnS.drew ?_) | (with_reducible refine OwnS.drewN ?_ _) | ((with_reducible refine OwnS.far ?_ ?_ _); rotate_left; (intro x hx; have := ge1 x hx; (try simp at this); simp; omega))))
    · exact (by repeat (first | (with_reducible exact u2) | (with_reducible refine OwnS.drew ?_) | (with_reducible refine OwnS.drewN ?_ _) | ((with_reducible refine OwnS.far ?_ ?_ _); rotate_left; (intro x hx; have := ge2 x hx; (try simp at this); simp; omega))))
  case inr.inl =>
    have HV := Lib.hid (HVN.out q6.out)
    go_enter Try.func36, Try.ntmps36
    go_wp2_with fail
    refine (S_IsValidAccum _ (RS.step (by repeat (first | (with_reducible exact Below.refl _ _) | (with_reducible assumption) | ((with_reducible refine Below.alloc ?_ ?_ _); rotate_left; (first | omega | (simp <;> omega))) | ((with_reducible refine Below.setCell ?_ ?_ _); rotate_left; (first | omega | (simp <;> omega))) | (with_reducible refine below_drewN ?_ _) | (with_reducible refine Below.drew ?_) | ((with_reducible refine Below.step (by assumption) ?_ ?_); rotate_left; (first | omega | (simp <;> omega))))) H1.out) (RS.step (by repeat (first | (with_reducible exact Below.refl _ _) | (with_reducible assumption) | ((with_reducible refine Below.alloc ?_ ?_ _); rotate_left; (first | omega | (simp <;> omega))) | ((with_reducible refine Below.setCell ?_ ?_ _); rotate_left; (first | omega | (simp <;> omega))) | (with_reducible refine below_drewN ?_ _) | (with_reducible refine Below.drew ?_) | ((with_reducible refine Below.step (by assumption) ?_ ?_); rotate_left; (first | omega | (simp <;> omega))))) H2.out)).mono ?_
    rintro e w1 ⟨rfl, hbw1⟩
    have hzw1 := hbw1.size
    (try simp at hzw1)
    obtain ⟨ccw1, ffw1⟩ := bcell (hbw1.mono (show w.heap.size + 4 ≤ _ by first | omega | (simp <;> omega)))
    have zw10 : w.heap.size < w1.heap.size := by omega
    have zw11 : w.heap.size + 1 < w1.heap.size := by omega
    have zw12 : w.heap.size + 1 + 1 < w1.heap.size := by omega
    have zw13 : w.heap.size + 1 + 1 + 1 < w1.heap.size := by omega
    have hBw1 : Below w.heap.size w w1 := (by repeat (first | (with_reducible exact Below.refl _ _) | (with_reducible assumption) | ((with_reducible refine Below.alloc ?_ ?_ _); rotate_left; (first | omega | (simp <;> omega))) | ((with_reducible refine Below.setCell ?_ ?_ _); rotate_left; (first | omega | (simp <;> omega))) | (with_reducible refine below_drewN ?_ _) | (with_reducible refine Below.drew ?_) | ((with_reducible refine Below.step (by assumption) ?_ ?_); rotate_left; (first | omega | (simp <;> omega)))))
    go_wp2_with fail
    refine (S_IsValidFilter _ _ _).mono ?_
    rintro e w2 ⟨rfl, hbw2⟩
    have hzw2 := hbw2.size
    (try simp at hzw2)
    obtain ⟨ccw2, ffw2⟩ := bcell (hbw2.mono (show w.heap.size + 4 ≤ _ by first | omega | (simp <;> omega)))
    have zw20 : w.heap.size < w2.heap.size := by omega
    have zw21 : w.heap.size + 1 < w2.heap.size := by omega
    have zw22 : w.heap.size + 1 + 1 < w2.heap.size := by omega
    have zw23 : w.heap.size + 1 + 1 + 1 < w2.heap.size := by omega
    have hBw2 : Below w.heap.size w w2 := (by repeat (first | (with_reducible exact Below.refl _ _) | (with_reducible assumption) | ((with_reducible refine Below.alloc ?_ ?_ _); rotate_left; (first | omega | (simp <;> omega))) | ((with_reducible refine Below.setCell ?_ ?_ _); rotate_left; (first | omega | (simp <;> omega))) | (with_reducible refine below_drewN ?_ _) | (with_reducible refine Below.drew ?_) | ((with_reducible refine Below.step (by assumption) ?_ ?_); rotate_left; (first | omega | (simp <;> omega)))))
    go_wp2_with (go_at_call 117; refine (S_in _ _ _ _).mono ?_; rintro e w' ⟨rfl, rfl⟩)
    refine (S_copyAccum _ hs ht (RS.step hBw2 H1.out) (RS.step hBw2 H2.out)).mono ?_
    rintro e w9 ⟨P1, j1, P2, j2, rfl, u1, u2, ge1, ge2, hd, hb9⟩
    have hz9 := hb9.size
    (try simp at hz9)
    obtain ⟨cc9, ff9⟩ := bcell (hb9.mono (show w.heap.size + 4 ≤ _ by first | omega | (simp <;> omega)))
    have zz9 : w.heap.size + 1 + 1 + 1 < w9.heap.size := by omega
    have hB9 : Below w.heap.size w w9 := Below.trans hBw2 (hb9.mono hBw2.size)
    go_wp2
    rw [HV.out]
    refine bodyPost_ret (v := .tuple #[vAccum W H (.slice P1 s.length j1) (.slice P2 t.length j2), .bool false]) (by simp [results, Try.results36, go_sem, *]) rfl ⟨P1, j1, P2, j2, rfl, ?_, ?_, (fun x hx => by have := ge1 x hx; (try simp at this); omega), (fun x hx => by have := ge2 x hx; (try simp at this); omega), hd, (by repeat (first | (with_reducible exact Below.refl _ _) | (with_reducible exact hB9) | (with_reducible assumption) | ((with_reducible refine Below.alloc ?_ ?_ _); rotate_left; (first | omega | (simp <;> omega))) | ((with_reducible refine Below.setCell ?_ ?_ _); rotate_left; (first | omega | (simp <;> omega))) | (with_reducible refine below_drewN ?_ _) | (with_reducible refine Below.drew ?_) | ((with_reducible refine Below.step (by assumption) ?_ ?_); rotate_left; (first | omega | (simp <;> omega)))))⟩
    · exact (by repeat (first | (with_reducible exact u1) | (with_reducible refine OwnS.drew ?_) | (with_reducible refine OwnS.drewN ?_ _) | ((with_reducible refine OwnS.far ?_ ?_ _); rotate_left; (intro x hx; have := ge1 x hx; (try simp at this); simp; omega))))
    · exact (by repeat (first | (with_reducible exact u2) | (with_reducible refine OwnS.drew ?_) | (with_reducible refine OwnS.drewN ?_ _) | ((with_reducible refine OwnS.far ?_ ?_ _); rotate_left; (intro x hx; have := ge2 x hx; (try simp at this); simp; omega))))
  case inr.inr.inl =>
    have HV := Lib.hid (HVN.out q6.out)
    go_enter Try.func36, Try.ntmps36
    go_wp2_with fail
    refine (S_IsValidAccum _ (RS.step (by repeat (first | (with_reducible exact Below.refl _ _) | (with_reducible assumption) | ((with_reducible refine Below.alloc ?_ ?_ _); rotate_left; (first | omega | (simp <;> omega))) | ((with_reducible refine Below.setCell ?_ ?_ _); rotate_left; (first | omega | (simp <;> omega))) | (with_reducible refine below_drewN ?_ _) | (with_reducible refine Below.drew ?_) | ((with_reducible refine Below.step (by assumption) ?_ ?_); rotate_left; (first | omega | (simp <;> omega))))) H1.out) (RS.step (by repeat (first | (with_reducible exact Below.refl _ _) | (with_reducible assumption) | ((with_reducible refine Below.alloc ?_ ?_ _); rotate_left; (first | omega | (simp <;> omega))) | ((with_reducible refine Below.setCell ?_ ?_ _); rotate_left; (first | omega | (simp <;> omega))) | (with_reducible refine below_drewN ?_ _) | (with_reducible refine Below.drew ?_) | ((with_reducible refine Below.step (by assumption) ?_ ?_); rotate_left; (first | omega | (simp <;> omega))))) H2.out)).mono ?_
    rintro e w1 ⟨rfl, hbw1⟩
    have hzw1 := hbw1.size
    (try simp at hzw1)
    obtain ⟨ccw1, ffw1⟩ := bcell (hbw1.mono (show w.heap.size + 4 ≤ _ by first | omega | (simp <;> omega)))
    have zw10 : w.heap.size < w1.heap.size := by omega
    have zw11 : w.heap.size + 1 < w1.heap.size := by omega
    have zw12 : w.heap.size + 1 + 1 < w1.heap.size := by omega
    have zw13 : w.heap.size + 1 + 1 + 1 < w1.heap.size := by omega
    have hBw1 : Below w.heap.size w w1 := (by repeat (first | (with_reducible exact Below.refl _ _) | (with_reducible assumption) | ((with_reducible refine Below.alloc ?_ ?_ _); rotate_left; (first | omega | (simp <;> omega))) | ((with_reducible refine Below.setCell ?_ ?_ _); rotate_left; (first | omega | (simp <;> omega))) | (with_reducible refine below_drewN ?_ _) | (with_reducible refine Below.drew ?_) | ((with_reducible refine Below.step (by assumption) ?_ ?_); rotate_left; (first | omega | (simp <;> omega)))))
    go_wp2_with fail
    refine (S_IsValidFilter _ _ _).mono ?_
    rintro e w2 ⟨rfl, hbw2⟩
    have hzw2 := hbw2.size
    (try simp at hzw2)
    obtain ⟨ccw2, ffw2⟩ := bcell (hbw2.mono (show w.heap.size + 4 ≤ _ by first | omega | (simp <;> omega)))
    have zw20 : w.heap.size < w2.heap.size := by omega
    have zw21 : w.heap.size + 1 < w2.heap.size := by omega
    have zw22 : w.heap.size + 1 + 1 < w2.heap.size := by omega
    have zw23 : w.heap.size + 1 + 1 + 1 < w2.heap.size := by omega
    have hBw2 : Below w.heap.size w w2 := (by repeat (first | (with_reducible exact Below.refl _ _) | (with_reducible assumption) | ((with_reducible refine Below.alloc ?_ ?_ _); rotate_left; (first | omega | (simp <;> omega))) | ((with_reducible refine Below.setCell ?_ ?_ _); rotate_left; (first | omega | (simp <;> omega))) | (with_reducible refine below_drewN ?_ _) | (with_reducible refine Below.drew ?_) | ((with_reducible refine Below.step (by assumption) ?_ ?_); rotate_left; (first | omega | (simp <;> omega)))))
    go_wp2_with (go_at_call 117; refine (S_in _ _ _ _).mono ?_; rintro e w' ⟨rfl, rfl⟩)
    refine (S_copyAccum _ hs ht (RS.step hBw2 H1.out) (RS.step hBw2 H2.out)).mono ?_
    rintro e w9 ⟨P1, j1, P2, j2, rfl, u1, u2, ge1, ge2, hd, hb9⟩
    have hz9 := hb9.size
    (try simp at hz9)
    obtain ⟨cc9, ff9⟩ := bcell (hb9.mono (show w.heap.size + 4 ≤ _ by first | omega | (simp <;> omega)))
    have zz9 : w.heap.size + 1 + 1 + 1 < w9.heap.size := by omega
    have hB9 : Below w.heap.size w w9 := Below.trans hBw2 (hb9.mono hBw2.size)
    go_wp2
    rw [HV.out]
    refine bodyPost_ret (v := .tuple #[vAccum W H (.slice P1 s.length j1) (.slice P2 t.length j2), .bool false]) (by simp [results, Try.results36, go_sem, *]) rfl ⟨P1, j1, P2, j2, rfl, ?_, ?_, (fun x hx => by have := ge1 x hx; (try simp at this); omega), (fun x hx => by have := ge2 x hx; (try simp at this); omega), hd, (by repeat (first | (with_reducible exact Below.refl _ _) | (with_reducible exact hB9) | (with_reducible assumption) | ((with_reducible refine Below.alloc ?_ ?_ _); rotate_left; (first | omega | (simp <;> omega))) | ((with_reducible refine Below.setCell ?_ ?_ _); rotate_left; (first | omega | (simp <;> omega))) | (with_reducible refine below_drewN ?_ _) | (with_reducible refine Below.drew ?_) | ((with_reducible refine Below.step (by assumption) ?_ ?_); rotate_left; (first | omega | (simp <;> omega)))))⟩
    · exact (by repeat (first | (with_reducible exact u1) | (with_reducible refine OwnS.drew ?_) | (with_reducible refine OwnS.drewN ?_ _) | ((with_reducible refine OwnS.far ?_ ?_ _); rotate_left; (intro x hx; have := ge1 x hx; (try simp at this); simp; omega))))
    · exact (by repeat (first | (with_reducible exact u2) | (with_reducible refine OwnS.drew ?_) | (with_reducible refine OwnS.drewN ?_ _) | ((with_reducible refine OwnS.far ?_ ?_ _); rotate_left; (intro x hx; have := ge2 x hx; (try simp at this); simp; omega))))
  case inr.inr.inr.inl =>
    have HV := Lib.hid (HVN.out q6.out)
    obtain ⟨⟨hW1, hW2⟩, ⟨hH1, hH2⟩, _⟩ := validAcc_all q1
    go_enter Try.func36, Try.ntmps36
    go_wp2_with fail
    refine (S_IsValidAccum _ (RS.step (by repeat (first | (with_reducible exact Below.refl _ _) | (with_reducible assumption) | ((with_reducible refine Below.alloc ?_ ?_ _); rotate_left; (first | omega | (simp <;> omega))) | ((with_reducible refine Below.setCell ?_ ?_ _); rotate_left; (first | omega | (simp <;> omega))) | (with_reducible refine below_drewN ?_ _) | (with_reducible refine Below.drew ?_) | ((with_reducible refine Below.step (by assumption) ?_ ?_); rotate_left; (first | omega | (simp <;> omega))))) H1.out) (RS.step (by repeat (first | (with_reducible exact Below.refl _ _) | (with_reducible assumption) | ((with_reducible refine Below.alloc ?_ ?_ _); rotate_left; (first | omega | (simp <;> omega))) | ((with_reducible refine Below.setCell ?_ ?_ _); rotate_left; (first | omega | (simp <;> omega))) | (with_reducible refine below_drewN ?_ _) | (with_reducible refine Below.drew ?_) | ((with_reducible refine Below.step (by assumption) ?_ ?_); rotate_left; (first | omega | (simp <;> omega))))) H2.out)).mono ?_
    rintro e w1 ⟨rfl, hbw1⟩
    have hzw1 := hbw1.size
    (try simp at hzw1)
    obtain ⟨ccw1, ffw1⟩ := bcell (hbw1.mono (show w.heap.size + 4 ≤ _ by first | omega | (simp <;> omega)))
    have zw10 : w.heap.size < w1.heap.size := by omega
    have zw11 : w.heap.size + 1 < w1.heap.size := by omega
    have zw12 : w.heap.size + 1 + 1 < w1.heap.size := by omega
    have zw13 : w.heap.size + 1 + 1 + 1 < w1.heap.size := by omega
    have hBw1 : Below w.heap.size w w1 := (by repeat (first | (with_reducible exact Below.refl _ _) | (with_reducible assumption) | ((with_reducible refine Below.alloc ?_ ?_ _); rotate_left; (first | omega | (simp <;> omega))) | ((with_reducible refine Below.setCell ?_ ?_ _); rotate_left; (first | omega | (simp <;> omega))) | (with_reducible refine below_drewN ?_ _) | (with_reducible refine Below.drew ?_) | ((with_reducible refine Below.step (by assumption) ?_ ?_); rotate_left; (first | omega | (simp <;> omega)))))
    go_wp2_with fail
    refine (S_IsValidFilter _ _ _).mono ?_
    rintro e w2 ⟨rfl, hbw2⟩
    have hzw2 := hbw2.size
    (try simp at hzw2)
    obtain ⟨ccw2, ffw2⟩ := bcell (hbw2.mono (show w.heap.size + 4 ≤ _ by first | omega | (simp <;> omega)))
    have zw20 : w.heap.size < w2.heap.size := by omega
    have zw21 : w.heap.size + 1 < w2.heap.size := by omega
    have zw22 : w.heap.size + 1 + 1 < w2.heap.size := by omega
    have zw23 : w.heap.size + 1 + 1 + 1 < w2.heap.size := by omega
    have hBw2 : Below w.heap.size w w2 := (by repeat (first | (with_reducible exact Below.refl _ _) | (with_reducible assumption) | ((with_reducible refine Below.alloc ?_ ?_ _); rotate_left; (first | omega | (simp <;> omega))) | ((with_reducible refine Below.setCell ?_ ?_ _); rotate_left; (first | omega | (simp <;> omega))) | (with_reducible refine below_drewN ?_ _) | (with_reducible refine Below.drew ?_) | ((with_reducible refine Below.step (by assumption) ?_ ?_); rotate_left; (first | omega | (simp <;> omega)))))
    go_wp2_with (go_at_call 117; refine (S_in _ _ _ _).mono ?_; rintro e w' ⟨rfl, rfl⟩)
    refine (S_copyAccum _ hs ht (RS.step hBw2 H1.out) (RS.step hBw2 H2.out)).mono ?_
    rintro e w9 ⟨P1, j1, P2, j2, rfl, u1, u2, ge1, ge2, hd, hb9⟩
    have hz9 := hb9.size
    (try simp at hz9)
    obtain ⟨cc9, ff9⟩ := bcell (hb9.mono (show w.heap.size + 4 ≤ _ by first | omega | (simp <;> omega)))
    have zz9 : w.heap.size + 1 + 1 + 1 < w9.heap.size := by omega
    have hB9 : Below w.heap.size w w9 := Below.trans hBw2 (hb9.mono hBw2.size)
    go_wp2
    rw [HV.out]
    refine bodyPost_ret (v := .tuple #[vAccum W H (.slice P1 s.length j1) (.slice P2 t.length j2), .bool false]) (by simp [results, Try.results36, go_sem, *]) rfl ⟨P1, j1, P2, j2, rfl, ?_, ?_, (fun x hx => by have := ge1 x hx; (try simp at this); omega), (fun x hx => by have := ge2 x hx; (try simp at this); omega), hd, (by repeat (first | (with_reducible exact Below.refl _ _) | (with_reducible exact hB9) | (with_reducible assumption) | ((with_reducible refine Below.alloc ?_ ?_ _); rotate_left; (first | omega | (simp <;> omega))) | ((with_reducible refine Below.setCell ?_ ?_ _); rotate_left; (first | omega | (simp <;> omega))) | (with_reducible refine below_drewN ?_ _) | (with_reducible refine Below.drew ?_) | ((with_reducible refine Below.step (by assumption) ?_ ?_); rotate_left; (first | omega | (simp <;> omega)))))⟩
    · exact (by repeat (first | (with_reducible exact u1) | (with_reducible refine OwnS.drew ?_) | (with_reducible refine OwnS.drewN ?_ _) | ((with_reducible refine OwnS.far ?_ ?_ _); rotate_left; (intro x hx; have := ge1 x hx; (try simp at this); simp; omega))))
    · exact (by repeat (first | (with_reducible exact u2) | (with_reducible refine OwnS.drew ?_) | (with_reducible refine OwnS.drewN ?_ _) | ((with_reducible refine OwnS.far ?_ ?_ _); rotate_left; (intro x hx; have := ge2 x hx; (try simp at this); simp; omega))))
  case inr.inr.inr.inr.inl =>
    have HV := Lib.hid (HVN.out q6.out)
    obtain ⟨⟨hW1, hW2⟩, ⟨hH1, hH2⟩, _⟩ := validAcc_all q1
    go_enter Try.func36, Try.ntmps36
    go_wp2_with fail
    refine (S_IsValidAccum _ (RS.step (by repeat (first | (with_reducible exact Below.refl _ _) | (with_reducible assumption) | ((with_reducible refine Below.alloc ?_ ?_ _); rotate_left; (first | omega | (simp <;> omega))) | ((with_reducible refine Below.setCell ?_ ?_ _); rotate_left; (first | omega | (simp <;> omega))) | (with_reducible refine below_drewN ?_ _) | (with_reducible refine Below.drew ?_) | ((with_reducible refine Below.step (by assumption) ?_ ?_); rotate_left; (first | omega | (simp <;> omega))))) H1.out) (RS.step (by repeat (first | (with_reducible exact Below.refl _ _) | (with_reducible assumption) | ((with_reducible refine Below.alloc ?_ ?_ _); rotate_left; (first | omega | (simp <;> omega))) | ((with_reducible refine Below.setCell ?_ ?_ _); rotate_left; (first | omega | (simp <;> omega))) | (with_reducible refine below_drewN ?_ _) | (with_reducible refine Below.drew ?_) | ((with_reducible refine Below.step (by assumption) ?_ ?_); rotate_left; (first | omega | (simp <;> omega))))) H2.out)).mono ?_
    rintro e w1 ⟨rfl, hbw1⟩
    have hzw1 := hbw1.size
    (try simp at hzw1)
    obtain ⟨ccw1, ffw1⟩ := bcell (hbw1.mono (show w.heap.size + 4 ≤ _ by first | omega | (simp <;> omega)))
    have zw10 : w.heap.size < w1.heap.size := by omega
    have zw11 : w.heap.size + 1 < w1.heap.size := by omega
    have zw12 : w.heap.size + 1 + 1 < w1.heap.size := by omega
    have zw13 : w.heap.size + 1 + 1 + 1 < w1.heap.size := by omega
    have hBw1 : Below w.heap.size w w1 := (by repeat (first | (with_reducible exact Below.refl _ _) | (with_reducible assumption) | ((with_reducible refine Below.alloc ?_ ?_ _); rotate_left; (first | omega | (simp <;> omega))) | ((with_reducible refine Below.setCell ?_ ?_ _); rotate_left; (first | omega | (simp <;> omega))) | (with_reducible refine below_drewN ?_ _) | (with_reducible refine Below.drew ?_) | ((with_reducible refine Below.step (by assumption) ?_ ?_); rotate_left; (first | omega | (simp <;> omega)))))
    go_wp2_with fail
    refine (S_IsValidFilter _ _ _).mono ?_
    rintro e w2 ⟨rfl, hbw2⟩
    have hzw2 := hbw2.size
    (try simp at hzw2)
    obtain ⟨ccw2, ffw2⟩ := bcell (hbw2.mono (show w.heap.size + 4 ≤ _ by first | omega | (simp <;> omega)))
    have zw20 : w.heap.size < w2.heap.size := by omega
    have zw21 : w.heap.size + 1 < w2.heap.size := by omega
    have zw22 : w.heap.size + 1 + 1 < w2.heap.size := by omega
    have zw23 : w.heap.size + 1 + 1 + 1 < w2.heap.size := by omega
    have hBw2 : Below w.heap.size w w2 := (by repeat (first | (with_reducible exact Below.refl _ _) | (with_reducible assumption) | ((with_reducible refine Below.alloc ?_ ?_ _); rotate_left; (first | omega | (simp <;> omega))) | ((with_reducible refine Below.setCell ?_ ?_ _); rotate_left; (first | omega | (simp <;> omega))) | (with_reducible refine below_drewN ?_ _) | (with_reducible refine Below.drew ?_) | ((with_reducible refine Below.step (by assumption) ?_ ?_); rotate_left; (first | omega | (simp <;> omega)))))
    go_wp2_with (go_at_call 117; refine (S_in _ _ _ _).mono ?_; rintro e w' ⟨rfl, rfl⟩)
    refine (S_copyAccum _ hs ht (RS.step hBw2 H1.out) (RS.step hBw2 H2.out)).mono ?_
    rintro e w9 ⟨P1, j1, P2, j2, rfl, u1, u2, ge1, ge2, hd, hb9⟩
    have hz9 := hb9.size
    (try simp at hz9)
    obtain ⟨cc9, ff9⟩ := bcell (hb9.mono (show w.heap.size + 4 ≤ _ by first | omega | (simp <;> omega)))
    have zz9 : w.heap.size + 1 + 1 + 1 < w9.heap.size := by omega
    have hB9 : Below w.heap.size w w9 := Below.trans hBw2 (hb9.mono hBw2.size)
    go_wp2
    rw [HV.out]
    refine bodyPost_ret (v := .tuple #[vAccum W H (.slice P1 s.length j1) (.slice P2 t.length j2), .bool false]) (by simp [results, Try.results36, go_sem, *]) rfl ⟨P1, j1, P2, j2, rfl, ?_, ?_, (fun x hx => by have := ge1 x hx; (try simp at this); omega), (fun x hx => by have := ge2 x hx; (try simp at this); omega), hd, (by repeat (first | (with_reducible exact Below.refl _ _) | (with_reducible exact hB9) | (with_reducible assumption) | ((with_reducible refine Below.alloc ?_ ?_ _); rotate_left; (first | omega | (simp <;> omega))) | ((with_reducible refine Below.setCell ?_ ?_ _); rotate_left; (first | omega | (simp <;> omega))) | (with_reducible refine below_drewN ?_ _) | (with_reducible refine Below.drew ?_) | ((with_reducible refine Below.step (by assumption) ?_ ?_); rotate_left; (first | omega | (simp <;> omega)))))⟩
    · exact (by repeat (first | (with_reducible exact u1) | (with_reducible refine OwnS.drew ?_) | (with_reducible refine OwnS.drewN ?_ _) | ((with_reducible refine OwnS.far ?_ ?_ _); rotate_left; (intro x hx; have := ge1 x hx; (try simp at this); simp; omega))))
    · exact (by repeat (first | (with_reducible exact u2) | (with_reducible refine OwnS.drew ?_) | (with_reducible refine OwnS.drewN ?_ _) | ((with_reducible refine OwnS.far ?_ ?_ _); rotate_left; (intro x hx; have := ge2 x hx; (try simp at this); simp; omega))))
  case inr.inr.inr.inr.inr =>
    obtain ⟨⟨hW1, hW2⟩, ⟨hH1, hH2⟩, _, _, hval⟩ := validAcc_all q1
    obtain ⟨a, b, rfl, rfl, ⟨a1, a2⟩, ⟨b1, b2⟩, hsl, htl⟩ := acc_nat q1
    have HVAL := Lib.hid hval
    have HSL := Lib.hid (And.intro hsl htl)
    have hpos : 0 < s.length := by rw [hsl]; exact Nat.mul_pos a1 b1
    have hpos2 : 0 < t.length := by rw [htl]; exact Nat.mul_pos a1 b1
    have HC0 := Lib.hid (inB_true q3)
    have HX0 := Lib.hid (inB_true q4)
    have HY0 := Lib.hid (inB_true q5)
    have HVF := Lib.hid q2
    clear hval hsl htl
    go_enter Try.func36, Try.ntmps36
    go_wp2_with fail
    refine (S_IsValidAccum _ (RS.step (by repeat (first | (with_reducible exact Below.refl _ _) | (with_reducible assumption) | ((with_reducible refine Below.alloc ?_ ?_ _); rotate_left; (first | omega | (simp <;> omega))) | ((with_reducible refine Below.setCell ?_ ?_ _); rotate_left; (first | omega | (simp <;> omega))) | (with_reducible refine below_drewN ?_ _) | (with_reducible refine Below.drew ?_) | ((with_reducible refine Below.step (by assumption) ?_ ?_); rotate_left; (first | omega | (simp <;> omega))))) H1.out) (RS.step (by repeat (first | (with_reducible exact Below.refl _ _) | (with_reducible assumption) | ((with_reducible refine Below.alloc ?_ ?_ _); rotate_left; (first | omega | (simp <;> omega))) | ((with_reducible refine Below.setCell ?_ ?_ _); rotate_left; (first | omega | (simp <;> omega))) | (with_reducible refine below_drewN ?_ _) | (with_reducible refine Below.drew ?_) | ((with_reducible refine Below.step (by assumption) ?_ ?_); rotate_left; (first | omega | (simp <;> omega))))) H2.out)).mono ?_
    rintro e w1 ⟨rfl, hbw1⟩
    have hzw1 := hbw1.size
    (try simp at hzw1)
    obtain ⟨ccw1, ffw1⟩ := bcell (hbw1.mono (show w.heap.size + 4 ≤ _ by first | omega | (simp <;> omega)))
    have zw10 : w.heap.size < w1.heap.size := by omega
    have zw11 : w.heap.size + 1 < w1.heap.size := by omega
    have zw12 : w.heap.size + 1 + 1 < w1.heap.size := by omega
    have zw13 : w.heap.size + 1 + 1 + 1 < w1.heap.size := by omega
    have hBw1 : Below w.heap.size w w1 := (by repeat (first | (with_reducible exact Below.refl _ _) | (with_reducible assumption) | ((with_reducible refine Below.alloc ?_ ?_ _); rotate_left; (first | omega | (simp <;> omega))) | ((with_reducible refine Below.setCell ?_ ?_ _); rotate_left; (first | omega | (simp <;> omega))) | (with_reducible refine below_drewN ?_ _) | (with_reducible refine Below.drew ?_) | ((with_reducible refine Below.step (by assumption) ?_ ?_); rotate_left; (first | omega | (simp <;> omega)))))
    go_wp2_with fail
    refine (S_IsValidFilter _ _ _).mono ?_
    rintro e w2 ⟨rfl, hbw2⟩
    have hzw2 := hbw2.size
    (try simp at hzw2)
    obtain ⟨ccw2, ffw2⟩ := bcell (hbw2.mono (show w.heap.size + 4 ≤ _ by first | omega | (simp <;> omega)))
    have zw20 : w.heap.size < w2.heap.size := by omega
    have zw21 : w.heap.size + 1 < w2.heap.size := by omega
    have zw22 : w.heap.size + 1 + 1 < w2.heap.size := by omega
    have zw23 : w.heap.size + 1 + 1 + 1 < w2.heap.size := by omega
    have hBw2 : Below w.heap.size w w2 := (by repeat (first | (with_reducible exact Below.refl _ _) | (with_reducible assumption) | ((with_reducible refine Below.alloc ?_ ?_ _); rotate_left; (first | omega | (simp <;> omega))) | ((with_reducible refine Below.setCell ?_ ?_ _); rotate_left; (first | omega | (simp <;> omega))) | (with_reducible refine below_drewN ?_ _) | (with_reducible refine Below.drew ?_) | ((with_reducible refine Below.step (by assumption) ?_ ?_); rotate_left; (first | omega | (simp <;> omega)))))
    go_wp2_with (go_at_call 117; refine (S_in _ _ _ _).mono ?_; rintro e w' ⟨rfl, rfl⟩)
    refine (S_copyAccum _ hs ht (RS.step hBw2 H1.out) (RS.step hBw2 H2.out)).mono ?_
    rintro e w3 ⟨P1, j1, P2, j2, rfl, u1, u2, ge1, ge2, hd, hbw3⟩
    have hzw3 := hbw3.size
    (try simp at hzw3)
    obtain ⟨ccw3, ffw3⟩ := bcell (hbw3.mono (show w.heap.size + 4 ≤ _ by first | omega | (simp <;> omega)))
    have zw30 : w.heap.size < w3.heap.size := by omega
    have zw31 : w.heap.size + 1 < w3.heap.size := by omega
    have zw32 : w.heap.size + 1 + 1 < w3.heap.size := by omega
    have zw33 : w.heap.size + 1 + 1 + 1 < w3.heap.size := by omega
    have hBw3 : Below w.heap.size w w3 := Below.trans hBw2 (hbw3.mono hBw2.size)
    obtain ⟨g1, d1, rfl, o1, k1a, k1b⟩ := OwnS.block u1 hpos
    obtain ⟨g2, d2, rfl, o2, k2a, k2b⟩ := OwnS.block u2 hpos2
    have hg1 := ge1 g1 (by simp [gOf])
    have hg2 := ge2 g2 (by simp [gOf])
    (try simp at hg1 hg2)
    have hg12 : g1 ≠ g2 := fun e => hd g1 (by simp [gOf]) (by simp [gOf, e])
    have hl1 := o1.lt
    have hl2 := o2.lt
    clear ge1 ge2 hd u1 u2
    go_wp2_with fail
    have HADD : Hid (∀ wx, Own wx g1 3 (ints s ++ d1) → Own wx g2 3 (ints t ++ d2) → Calls Try.prog 119 #[vAccum a b (.slice (some ⟨g1, 0, none⟩) s.length j1) (.slice (some ⟨g2, 0, none⟩) t.length j2), vFilter k r, vSample x y tt u v, .int .i64 color] wx fun e w' =>
          e = .returned (.bool (belowTo (wgt a k r x y) t t.length)) ∧ Own w' g1 3 (ints (sumsTo (wgt a k r x y) color s s.length) ++ d1) ∧ Own w' g2 3 (ints (wtsTo (wgt a k r x y) t t.length) ++ d2) ∧ Only wx.heap.size [g1, g2] wx w') := fun wx p1 p2 => by
      have hx0 := HX0.out
      have hy0 := HY0.out
      exact S_add wx ⟨a1, a2⟩ ⟨b1, b2⟩ HSL.out.1 HSL.out.2 HVAL.out HC0.out p1 p2 hg12 ⟨k1a, k1b⟩ ⟨k2a, k2b⟩
    refine (HADD.out _ (o1.alloc _) (o2.alloc _)).mono ?_
    rintro e w5 ⟨rfl, p1, p2, hO⟩
    have hz5 := hO.size
    (try simp at hz5)
    have cA := fun o => (hO.cell (w.heap.size) (by simp; omega) (by simp; omega)).1 o
    have cR := fun o => (hO.cell (w.heap.size + 1 + 1 + 1) (by simp; omega) (by simp; omega)).1 o
    have fR := fun o => (hO.cell (w.heap.size + 1 + 1 + 1) (by simp; omega) (by simp; omega)).2 o
    have cB := fun o => (hO.cell (w3.heap.size) (by simp) (by simp; omega)).1 o
    have hB5 : Below w.heap.size w w5 := Below.trans (Below.alloc hBw3 (by omega) _) (hO.below (by simp; omega) (fun x hx => by simp at hx; omega))
    have z50 : w.heap.size < w5.heap.size := by omega
    have z53 : w.heap.size + 1 + 1 + 1 < w5.heap.size := by omega
    have HP1 := Lib.hid p1
    have HP2 := Lib.hid p2
    have HB5 := Lib.hid hB5
    clear p1 p2 hO o1 o2
    cases hbt : belowTo (wgt a k r x y) t t.length
    case false =>
      have HV := Lib.hid (HVN.out (by rw [q6.out]; simpa using hbt))
      go_wp2_with (go_at_call 117; refine (S_in _ _ _ _).mono ?_; rintro e w' ⟨rfl, rfl⟩)
      refine (S_copyAccum _ hs ht (RS.step HB5.out H1.out) (RS.step HB5.out H2.out)).mono ?_
      rintro e w9 ⟨P1, j1, P2, j2, rfl, u1, u2, ge1, ge2, hd, hb9⟩
      have hz9 := hb9.size
      (try simp at hz9)
      obtain ⟨cc9, ff9⟩ := bcell (hb9.mono (show w.heap.size + 4 ≤ _ by first | omega | (simp <;> omega)))
      have zz9 : w.heap.size + 1 + 1 + 1 < w9.heap.size := by omega
      have hB9 : Below w.heap.size w w9 := Below.trans HB5.out (hb9.mono HB5.out.size)
      go_wp2
      rw [HV.out]
      refine bodyPost_ret (v := .tuple #[vAccum a b (.slice P1 s.length j1) (.slice P2 t.length j2), .bool false]) (by simp [results, Try.results36, go_sem, *]) rfl ⟨P1, j1, P2, j2, rfl, ?_, ?_, (fun x hx => by have := ge1 x hx; (try simp at this); omega), (fun x hx => by have := ge2 x hx; (try simp at this); omega), hd, (by repeat (first | (with_reducible exact Below.refl _ _) | (with_reducible exact hB9) | (with_reducible assumption) | ((with_reducible refine Below.alloc ?_ ?_ _); rotate_left; (first | omega | (simp <;> omega))) | ((with_reducible refine Below.setCell ?_ ?_ _); rotate_left; (first | omega | (simp <;> omega))) | (with_reducible refine below_drewN ?_ _) | (with_reducible refine Below.drew ?_) | ((with_reducible refine Below.step (by assumption) ?_ ?_); rotate_left; (first | omega | (simp <;> omega)))))⟩
      · exact (by repeat (first | (with_reducible exact u1) | (with_reducible refine OwnS.drew ?_) | (with_reducible refine OwnS.drewN ?_ _) | ((with_reducible refine OwnS.far ?_ ?_ _); rotate_left; (intro x hx; have := ge1 x hx; (try simp at this); simp; omega))))
      · exact (by repeat (first | (with_reducible exact u2) | (with_reducible refine OwnS.drew ?_) | (with_reducible refine OwnS.drewN ?_ _) | ((with_reducible refine OwnS.far ?_ ?_ _); rotate_left; (intro x hx; have := ge2 x hx; (try simp at this); simp; omega))))
    case true =>
      have HOK : Hid (addOk a b s t k r x y color = true) := by show _ = _; rw [q6.out]; simpa using hbt
      have HV : Hid (AddR a b s.length t.length (addOk a b s t k r x y color) (addS a b s t k r x y color) (addT a b s t k r x y color) w = AddR a b s.length t.length true (sumsTo (wgt a k r x y) color s s.length) (wtsTo (wgt a k r x y) t t.length) w) := by show _ = _; rw [addS, addT, HOK.out]; rfl
      go_wp2
      rw [HV.out]
      refine bodyPost_ret (v := .tuple #[vAccum a b (.slice (some ⟨g1, 0, none⟩) s.length j1) (.slice (some ⟨g2, 0, none⟩) t.length j2), .bool true]) (by simp [results, Try.results36, go_sem, *]) rfl ⟨_, _, _, _, rfl, ⟨by simp [pixTo_len], k1a, k1b, .inr ⟨g1, d1, rfl, ?_⟩⟩, ⟨by simp [pixTo_len], k2a, k2b, .inr ⟨g2, d2, rfl, ?_⟩⟩, (fun x hx => by simp [gOf] at hx; omega), (fun x hx => by simp [gOf] at hx; omega), (fun x hx hx2 => by simp [gOf] at hx hx2; omega), (by repeat (first | (with_reducible exact Below.refl _ _) | (with_reducible exact HB5.out) | (with_reducible assumption) | ((with_reducible refine Below.alloc ?_ ?_ _); rotate_left; (first | omega | (simp <;> omega))) | ((with_reducible refine Below.setCell ?_ ?_ _); rotate_left; (first | omega | (simp <;> omega))) | (with_reducible refine below_drewN ?_ _) | (with_reducible refine Below.drew ?_) | ((with_reducible refine Below.step (by assumption) ?_ ?_); rotate_left; (first | omega | (simp <;> omega)))))⟩
      · exact (by repeat (first | (with_reducible exact HP1.out) | ((with_reducible refine Own.far ?_ ?_ _); rotate_left; (first | omega | (simp <;> omega))) | (with_reducible refine Own.alloc ?_ _) | (with_reducible refine Own.drewN ?_ _) | (with_reducible refine Own.drew ?_) | (with_reducible refine Own.step (by assumption) ?_)))
      · exact (by repeat (first | (with_reducible exact HP2.out) | ((with_reducible refine Own.far ?_ ?_ _); rotate_left; (first | omega | (simp <;> omega))) | (with_reducible refine Own.alloc ?_ _) | (with_reducible refine Own.drewN ?_ _) | (with_reducible refine Own.drew ?_) | (with_reducible refine Own.step (by assumption) ?_)))
end Go.Proofs.Ythfnldjldfkmnaa
