/- MADE BY PROGRAM (genrow.py). Structs of ints with slices of ints and bools: the laws' szX, toX, eqX (on equal fields); an argument of that type. -/
import Derived.Test.YthfnldjldfkmnaaInts
import Derived.Test.YthfnldjldfkmnaaBools
import Derived.Test.YthfnldjldfkmnaaOpen
namespace Go.Proofs.Ythfnldjldfkmnaa
open Go.ChangeShapes Go.WideShapes Go.ChangeAt Go.RowKit
set_option linter.unusedVariables false
def szF2 (left : Int) (n m : Nat) : Int := if szF left n < 0 then -1 else szF (szF left n) m
theorem szF_or (left : Int) (n : Nat) : szF left n = -1 ∨ (0 ≤ szF left n ∧ szF left n ≤ left ∧ n ≤ left) := by
  rcases Int.lt_or_le left n with h | h
  · exact .inl (szF_big h)
  · have := szF_small h; exact .inr ⟨this.1, this.2, h⟩
theorem szF2_or (left : Int) (n m : Nat) : szF2 left n m = -1 ∨ (0 ≤ szF2 left n m ∧ szF2 left n m ≤ left ∧ n ≤ left ∧ m ≤ left) := by
  unfold szF2
  rcases szF_or left n with h | ⟨h1, h2, h3⟩
  · rw [h]; exact .inl rfl
  · rw [if_neg (by omega)]
    rcases szF_or (szF left n) m with h | ⟨h4, h5, h6⟩
    · exact .inl h
    · exact .inr ⟨h4, by omega, h3, by omega⟩
abbrev vImage (x0 x1 : Int) (s0 : Value) : Value := .agg #[.int .i64 x0, .int .i64 x1, s0]
abbrev vFilm (x0 x1 : Int) (s0 s1 : Value) : Value := .agg #[.int .i64 x0, .int .i64 x1, s0, s1]
set_option maxHeartbeats 400000 in
theorem L_szFilm {x0 x1 : Int} {A0 A1 : Option Addr} {n0 p0 n1 p1 : Nat} {left : Int} (w : World) (hl : 0 ≤ left) (hl2 : left ≤ 1048576) (hn0 : n0 ≤ maxLen) (hn1 : n1 ≤ maxLen) :
    Calls Try.prog 57 #[(vFilm x0 x1 (.slice A0 n0 p0) (.slice A1 n1 p1)), .int .i64 left] w fun e w' => e = .returned (.int .i64 (szF2 left n0 n1)) ∧ Below w.heap.size w w' := by
  rcases Int.lt_or_le left n0 with hb | hb
  · have hz := szF_big hb
    have hz2 : szF2 left n0 n1 = -1 := by unfold szF2; rw [hz]; rfl
    have HZ := Lib.hid hz2
    clear hz2
    go_enter Try.func57, Try.ntmps57
    go_wp2_with (first | (go_at_call 134; refine (L_szBoolS _ _ _ _ (by assumption) (by assumption) (by assumption) _).mono ?_; rintro e w' ⟨rfl, rfl⟩) | (go_at_call 114; refine (L_szIntS _ _ _ _ (by assumption) (by assumption) (by assumption) _).mono ?_; rintro e w' ⟨rfl, rfl⟩))
    go_ret
    exact ⟨ret_int HZ.out.symm, (by repeat (first | (with_reducible exact Below.refl _ _) | (with_reducible assumption) | ((with_reducible refine Below.alloc ?_ ?_ _); rotate_left; (first | omega | (simp <;> omega))) | ((with_reducible refine Below.setCell ?_ ?_ _); rotate_left; (first | omega | (simp <;> omega))) | (with_reducible refine below_drewN ?_ _) | (with_reducible refine Below.drew ?_) | ((with_reducible refine Below.step (by assumption) ?_ ?_); rotate_left; (first | omega | (simp <;> omega)))))⟩
  · obtain ⟨hz, hz3⟩ := szF_small hb
    have hz2 : szF2 left n0 n1 = szF (szF left n0) n1 := by unfold szF2; rw [if_neg (by omega)]
    have HZ := Lib.hid hz2
    have hz4 : szF left n0 ≤ 1048576 := by omega
    rcases Int.lt_or_le (szF left n0) n1 with hb1 | hb1
    · have hz5 := szF_big hb1
      clear hz2
      go_enter Try.func57, Try.ntmps57
      go_wp2_with (first | (go_at_call 134; refine (L_szBoolS _ _ _ _ (by assumption) (by assumption) (by assumption) _).mono ?_; rintro e w' ⟨rfl, rfl⟩) | (go_at_call 114; refine (L_szIntS _ _ _ _ (by assumption) (by assumption) (by assumption) _).mono ?_; rintro e w' ⟨rfl, rfl⟩))
      go_ret
      exact ⟨ret_int (by rw [HZ.out, hz5]), (by repeat (first | (with_reducible exact Below.refl _ _) | (with_reducible assumption) | ((with_reducible refine Below.alloc ?_ ?_ _); rotate_left; (first | omega | (simp <;> omega))) | ((with_reducible refine Below.setCell ?_ ?_ _); rotate_left; (first | omega | (simp <;> omega))) | (with_reducible refine below_drewN ?_ _) | (with_reducible refine Below.drew ?_) | ((with_reducible refine Below.step (by assumption) ?_ ?_); rotate_left; (first | omega | (simp <;> omega)))))⟩
    · obtain ⟨hz5, hz6⟩ := szF_small hb1
      clear hz2
      go_enter Try.func57, Try.ntmps57
      go_wp2_with (first | (go_at_call 134; refine (L_szBoolS _ _ _ _ (by assumption) (by assumption) (by assumption) _).mono ?_; rintro e w' ⟨rfl, rfl⟩) | (go_at_call 114; refine (L_szIntS _ _ _ _ (by assumption) (by assumption) (by assumption) _).mono ?_; rintro e w' ⟨rfl, rfl⟩))
      go_ret
      exact ⟨ret_int HZ.out.symm, (by repeat (first | (with_reducible exact Below.refl _ _) | (with_reducible assumption) | ((with_reducible refine Below.alloc ?_ ?_ _); rotate_left; (first | omega | (simp <;> omega))) | ((with_reducible refine Below.setCell ?_ ?_ _); rotate_left; (first | omega | (simp <;> omega))) | (with_reducible refine below_drewN ?_ _) | (with_reducible refine Below.drew ?_) | ((with_reducible refine Below.step (by assumption) ?_ ?_); rotate_left; (first | omega | (simp <;> omega)))))⟩
def OutFilm (x0 x1 : Int) (l0 : List Int) (l1 : List Bool) (w : World) (e : Ending) (w' : World) : Prop :=
  ∃ g0 g1, e = .returned (vFilm x0 x1 (sl g0 l0.length) (sl g1 l1.length)) ∧ Own w' g0 3 (ints l0) ∧ RS w' 1 (some ⟨g0, 0, none⟩) l0.length l0.length (ints l0) ∧ Own w' g1 4 (bools l1) ∧ RS w' 1 (some ⟨g1, 0, none⟩) l1.length l1.length (bools l1) ∧ (w.heap.size ≤ g0 ∧ g0 < g1) ∧ Below w.heap.size w w'
set_option maxHeartbeats 400000 in
theorem L_toFilm {x0 x1 : Int} {A0 : Option Addr} {p0 : Nat} {l0 : List Int} {A1 : Option Addr} {p1 : Nat} {l1 : List Bool} (w : World) (hs0 : l0.length ≤ 1048576) (hs1 : l1.length ≤ 1048576) (h0 : RS w 1 A0 l0.length p0 (ints l0)) (h1 : RS w 1 A1 l1.length p1 (bools l1)) :
    Calls Try.prog 59 #[(vFilm x0 x1 (.slice A0 l0.length p0) (.slice A1 l1.length p1))] w (OutFilm x0 x1 l0 l1 w) := by
  go_enter Try.func59, Try.ntmps59
  go_wp2_with fail
  refine (L_toIntS _ _ _ _ hs0 (by first | (with_reducible assumption) | ((with_reducible refine RS.step ?_ (by assumption)); repeat (first | (with_reducible exact Below.refl _ _) | (with_reducible assumption) | ((with_reducible refine Below.alloc ?_ ?_ _); rotate_left; (first | omega | (simp <;> omega))) | ((with_reducible refine Below.setCell ?_ ?_ _); rotate_left; (first | omega | (simp <;> omega))) | (with_reducible refine below_drewN ?_ _) | (with_reducible refine Below.drew ?_) | ((with_reducible refine Below.step (by assumption) ?_ ?_); rotate_left; (first | omega | (simp <;> omega))))))).mono ?_
  rintro e w' ⟨rfl, ho0, hr0, hb⟩; have hz := hb.size; (try simp at hz); have c0 := fun o => hb.cell (p := ⟨w.heap.size, o, none⟩) (by first | omega | (simp <;> omega)); have f0 := fun o => hb.frozen (p := ⟨w.heap.size, o, none⟩) (by first | omega | (simp <;> omega)); have z0 : w.heap.size < w'.heap.size := (by omega); have c1 := fun o => hb.cell (p := ⟨w.heap.size + 1, o, none⟩) (by first | omega | (simp <;> omega)); have f1 := fun o => hb.frozen (p := ⟨w.heap.size + 1, o, none⟩) (by first | omega | (simp <;> omega)); have z1 : w.heap.size + 1 < w'.heap.size := (by omega); have c2 := fun o => hb.cell (p := ⟨w.heap.size + 1 + 1, o, none⟩) (by first | omega | (simp <;> omega)); have f2 := fun o => hb.frozen (p := ⟨w.heap.size + 1 + 1, o, none⟩) (by first | omega | (simp <;> omega)); have z2 : w.heap.size + 1 + 1 < w'.heap.size := (by omega)
  simp at ho0 hr0
  have e0 := hb.size
  simp at e0
  have hb0 := hb
  have cc0 := c1
  have o0 := ho0.lt
  obtain ⟨w1, rfl⟩ : ∃ w1, w1 = w' := ⟨_, rfl⟩
  go_wp2_with fail
  refine (L_toBoolS _ _ _ _ hs1 (by first | (with_reducible assumption) | ((with_reducible refine RS.step ?_ (by assumption)); repeat (first | (with_reducible exact Below.refl _ _) | (with_reducible assumption) | ((with_reducible refine Below.alloc ?_ ?_ _); rotate_left; (first | omega | (simp <;> omega))) | ((with_reducible refine Below.setCell ?_ ?_ _); rotate_left; (first | omega | (simp <;> omega))) | (with_reducible refine below_drewN ?_ _) | (with_reducible refine Below.drew ?_) | ((with_reducible refine Below.step (by assumption) ?_ ?_); rotate_left; (first | omega | (simp <;> omega))))))).mono ?_
  rintro e w' ⟨rfl, ho1, hr1, hb⟩; have hz := hb.size; (try simp at hz); have c0 := fun o => hb.cell (p := ⟨w.heap.size, o, none⟩) (by first | omega | (simp <;> omega)); have f0 := fun o => hb.frozen (p := ⟨w.heap.size, o, none⟩) (by first | omega | (simp <;> omega)); have z0 : w.heap.size < w'.heap.size := (by omega); have c1 := fun o => hb.cell (p := ⟨w.heap.size + 1, o, none⟩) (by first | omega | (simp <;> omega)); have f1 := fun o => hb.frozen (p := ⟨w.heap.size + 1, o, none⟩) (by first | omega | (simp <;> omega)); have z1 : w.heap.size + 1 < w'.heap.size := (by omega); have c2 := fun o => hb.cell (p := ⟨w.heap.size + 1 + 1, o, none⟩) (by first | omega | (simp <;> omega)); have f2 := fun o => hb.frozen (p := ⟨w.heap.size + 1 + 1, o, none⟩) (by first | omega | (simp <;> omega)); have z2 : w.heap.size + 1 + 1 < w'.heap.size := (by omega)
  simp at ho1 hr1
  have e1 := hb.size
  simp at e1
  have hb1 := hb
  have cc1 := c1
  have o1 := ho1.lt
  obtain ⟨w2, rfl⟩ : ∃ w2, w2 = w' := ⟨_, rfl⟩
  go_wp2
  refine bodyPost_ret (v := (vFilm x0 x1 (sl (w.heap.size + 1 + 1 + 1) l0.length) (sl w1.heap.size l1.length))) (by simp [results, Try.results59, go_sem, cc0, cc1]) rfl ⟨_, _, rfl, (by repeat (first | (with_reducible exact ho0) | ((with_reducible refine Own.far ?_ ?_ _); rotate_left; (first | omega | (simp <;> omega))) | (with_reducible refine Own.alloc ?_ _) | (with_reducible refine Own.drewN ?_ _) | (with_reducible refine Own.drew ?_) | (with_reducible refine Own.step (by assumption) ?_))), ?_, (by repeat (first | (with_reducible exact ho1) | ((with_reducible refine Own.far ?_ ?_ _); rotate_left; (first | omega | (simp <;> omega))) | (with_reducible refine Own.alloc ?_ _) | (with_reducible refine Own.drewN ?_ _) | (with_reducible refine Own.drew ?_) | (with_reducible refine Own.step (by assumption) ?_))), ?_, ⟨(by omega), (by omega)⟩, (by repeat (first | (with_reducible exact Below.refl _ _) | (with_reducible assumption) | ((with_reducible refine Below.alloc ?_ ?_ _); rotate_left; (first | omega | (simp <;> omega))) | ((with_reducible refine Below.setCell ?_ ?_ _); rotate_left; (first | omega | (simp <;> omega))) | (with_reducible refine below_drewN ?_ _) | (with_reducible refine Below.drew ?_) | ((with_reducible refine Below.step (by assumption) ?_ ?_); rotate_left; (first | omega | (simp <;> omega)))))⟩
  · exact Own.rs (t := 3) (by repeat (first | (with_reducible exact ho0) | ((with_reducible refine Own.far ?_ ?_ _); rotate_left; (first | omega | (simp <;> omega))) | (with_reducible refine Own.alloc ?_ _) | (with_reducible refine Own.drewN ?_ _) | (with_reducible refine Own.drew ?_) | (with_reducible refine Own.step (by assumption) ?_))) (by simp) hs0
  · exact Own.rs (t := 4) (by repeat (first | (with_reducible exact ho1) | ((with_reducible refine Own.far ?_ ?_ _); rotate_left; (first | omega | (simp <;> omega))) | (with_reducible refine Own.alloc ?_ _) | (with_reducible refine Own.drewN ?_ _) | (with_reducible refine Own.drew ?_) | (with_reducible refine Own.step (by assumption) ?_))) (by simp) hs1
set_option maxHeartbeats 400000 in
theorem L_eqFilm {x0 x1 : Int} {A0 : Option Addr} {p0 : Nat} {l0 : List Int} {A1 : Option Addr} {p1 : Nat} {l1 : List Bool} {B0 : Option Addr} {d0 : Nat} {B1 : Option Addr} {d1 : Nat} (w : World) (h0 : RS w 1 A0 l0.length p0 (ints l0)) (h1 : RS w 1 A1 l1.length p1 (bools l1)) (k0 : RS w 1 B0 l0.length d0 (ints l0)) (k1 : RS w 1 B1 l1.length d1 (bools l1)) :
    Calls Try.prog 61 #[(vFilm x0 x1 (.slice A0 l0.length p0) (.slice A1 l1.length p1)), (vFilm x0 x1 (.slice B0 l0.length d0) (.slice B1 l1.length d1))] w fun e w' => e = .returned (.bool true) ∧ Below w.heap.size w w' := by
  go_enter Try.func61, Try.ntmps61
  go_wp2_with fail
  refine (L_eqIntS _ _ _ _ _ _ _ (by first | (with_reducible assumption) | ((with_reducible refine RS.step ?_ (by assumption)); repeat (first | (with_reducible exact Below.refl _ _) | (with_reducible assumption) | ((with_reducible refine Below.alloc ?_ ?_ _); rotate_left; (first | omega | (simp <;> omega))) | ((with_reducible refine Below.setCell ?_ ?_ _); rotate_left; (first | omega | (simp <;> omega))) | (with_reducible refine below_drewN ?_ _) | (with_reducible refine Below.drew ?_) | ((with_reducible refine Below.step (by assumption) ?_ ?_); rotate_left; (first | omega | (simp <;> omega)))))) (by first | (with_reducible assumption) | ((with_reducible refine RS.step ?_ (by assumption)); repeat (first | (with_reducible exact Below.refl _ _) | (with_reducible assumption) | ((with_reducible refine Below.alloc ?_ ?_ _); rotate_left; (first | omega | (simp <;> omega))) | ((with_reducible refine Below.setCell ?_ ?_ _); rotate_left; (first | omega | (simp <;> omega))) | (with_reducible refine below_drewN ?_ _) | (with_reducible refine Below.drew ?_) | ((with_reducible refine Below.step (by assumption) ?_ ?_); rotate_left; (first | omega | (simp <;> omega))))))).mono ?_
  rintro e w' ⟨rfl, hb⟩; have hz := hb.size; (try simp at hz); have c0 := fun o => hb.cell (p := ⟨w.heap.size, o, none⟩) (by first | omega | (simp <;> omega)); have f0 := fun o => hb.frozen (p := ⟨w.heap.size, o, none⟩) (by first | omega | (simp <;> omega)); have z0 : w.heap.size < w'.heap.size := (by omega); have c1 := fun o => hb.cell (p := ⟨w.heap.size + 1, o, none⟩) (by first | omega | (simp <;> omega)); have f1 := fun o => hb.frozen (p := ⟨w.heap.size + 1, o, none⟩) (by first | omega | (simp <;> omega)); have z1 : w.heap.size + 1 < w'.heap.size := (by omega)
  go_wp2_with fail
  refine (L_eqBoolS _ _ _ _ _ _ _ (by first | (with_reducible assumption) | ((with_reducible refine RS.step ?_ (by assumption)); repeat (first | (with_reducible exact Below.refl _ _) | (with_reducible assumption) | ((with_reducible refine Below.alloc ?_ ?_ _); rotate_left; (first | omega | (simp <;> omega))) | ((with_reducible refine Below.setCell ?_ ?_ _); rotate_left; (first | omega | (simp <;> omega))) | (with_reducible refine below_drewN ?_ _) | (with_reducible refine Below.drew ?_) | ((with_reducible refine Below.step (by assumption) ?_ ?_); rotate_left; (first | omega | (simp <;> omega)))))) (by first | (with_reducible assumption) | ((with_reducible refine RS.step ?_ (by assumption)); repeat (first | (with_reducible exact Below.refl _ _) | (with_reducible assumption) | ((with_reducible refine Below.alloc ?_ ?_ _); rotate_left; (first | omega | (simp <;> omega))) | ((with_reducible refine Below.setCell ?_ ?_ _); rotate_left; (first | omega | (simp <;> omega))) | (with_reducible refine below_drewN ?_ _) | (with_reducible refine Below.drew ?_) | ((with_reducible refine Below.step (by assumption) ?_ ?_); rotate_left; (first | omega | (simp <;> omega))))))).mono ?_
  rintro e w' ⟨rfl, hb⟩; have hz := hb.size; (try simp at hz); have c0 := fun o => hb.cell (p := ⟨w.heap.size, o, none⟩) (by first | omega | (simp <;> omega)); have f0 := fun o => hb.frozen (p := ⟨w.heap.size, o, none⟩) (by first | omega | (simp <;> omega)); have z0 : w.heap.size < w'.heap.size := (by omega); have c1 := fun o => hb.cell (p := ⟨w.heap.size + 1, o, none⟩) (by first | omega | (simp <;> omega)); have f1 := fun o => hb.frozen (p := ⟨w.heap.size + 1, o, none⟩) (by first | omega | (simp <;> omega)); have z1 : w.heap.size + 1 < w'.heap.size := (by omega)
  go_wp2
  go_ret
  exact ⟨rfl, (by repeat (first | (with_reducible exact Below.refl _ _) | (with_reducible assumption) | ((with_reducible refine Below.alloc ?_ ?_ _); rotate_left; (first | omega | (simp <;> omega))) | ((with_reducible refine Below.setCell ?_ ?_ _); rotate_left; (first | omega | (simp <;> omega))) | (with_reducible refine below_drewN ?_ _) | (with_reducible refine Below.drew ?_) | ((with_reducible refine Below.step (by assumption) ?_ ?_); rotate_left; (first | omega | (simp <;> omega)))))⟩
theorem Arg.film {H : Type} {enc : TypeId × Value → H} {W : World} {v : Value} (h : Arg enc W 96 v) : ∃ (x0 x1 : Int) (A0 : Option Addr) (p0 : Nat) (l0 : List Int) (A1 : Option Addr) (p1 : Nat) (l1 : List Bool), v = (vFilm x0 x1 (.slice A0 l0.length p0) (.slice A1 l1.length p1)) ∧ RS W 1 A0 l0.length p0 (ints l0) ∧ RS W 1 A1 l1.length p1 (bools l1) := by
  obtain ⟨cs, rfl, hc⟩ := h.struct Try.underlying96
  have hl := (hc.struct_len Try.underlying96).trans (show Try.prog.cellsOf 96 = 4 by kernel_rfl)
  match cs, hl with
  | [y0, y1, y2, y3], _ =>
    obtain ⟨x0, q0, _⟩ := (hc.fieldAt Try.underlying96 0 3 0 1 rfl T.cellInt).int Try.underlying3
    obtain rfl : y0 = _ := List.head_eq_of_cons_eq q0
    obtain ⟨x1, q1, _⟩ := (hc.fieldAt Try.underlying96 1 3 1 1 rfl T.cellInt).int Try.underlying3
    obtain rfl : y1 = _ := List.head_eq_of_cons_eq q1
    obtain ⟨v0, l0, q2, r0, _⟩ := (hc.fieldAt Try.underlying96 2 36 2 1 rfl (by kernel_rfl)).intRow Try.underlying36 Try.underlying3 T.cellInt
    obtain rfl : y2 = _ := List.head_eq_of_cons_eq q2
    obtain ⟨v1, l1, q3, r1⟩ := (hc.fieldAt Try.underlying96 3 94 3 1 rfl (by kernel_rfl)).boolRow Try.underlying94 Try.underlying4 T.cellBool
    obtain rfl : y3 = _ := List.head_eq_of_cons_eq q3
    have u0 := r0
    obtain ⟨_, A0, p0, rfl, _⟩ := r0
    have u1 := r1
    obtain ⟨_, A1, p1, rfl, _⟩ := r1
    exact ⟨x0, x1, A0, p0, l0, A1, p1, l1, rfl, u0, u1⟩
abbrev vAccum (x0 x1 : Int) (s0 s1 : Value) : Value := .agg #[.int .i64 x0, .int .i64 x1, s0, s1]
set_option maxHeartbeats 400000 in
theorem L_szAccum {x0 x1 : Int} {A0 A1 : Option Addr} {n0 p0 n1 p1 : Nat} {left : Int} (w : World) (hl : 0 ≤ left) (hl2 : left ≤ 1048576) (hn0 : n0 ≤ maxLen) (hn1 : n1 ≤ maxLen) :
    Calls Try.prog 35 #[(vAccum x0 x1 (.slice A0 n0 p0) (.slice A1 n1 p1)), .int .i64 left] w fun e w' => e = .returned (.int .i64 (szF2 left n0 n1)) ∧ Below w.heap.size w w' := by
  rcases Int.lt_or_le left n0 with hb | hb
  · have hz := szF_big hb
    have hz2 : szF2 left n0 n1 = -1 := by unfold szF2; rw [hz]; rfl
    have HZ := Lib.hid hz2
    clear hz2
    go_enter Try.func35, Try.ntmps35
    go_wp2_with (first | (go_at_call 114; refine (L_szIntS _ _ _ _ (by assumption) (by assumption) (by assumption) _).mono ?_; rintro e w' ⟨rfl, rfl⟩))
    go_ret
    exact ⟨ret_int HZ.out.symm, (by repeat (first | (with_reducible exact Below.refl _ _) | (with_reducible assumption) | ((with_reducible refine Below.alloc ?_ ?_ _); rotate_left; (first | omega | (simp <;> omega))) | ((with_reducible refine Below.setCell ?_ ?_ _); rotate_left; (first | omega | (simp <;> omega))) | (with_reducible refine below_drewN ?_ _) | (with_reducible refine Below.drew ?_) | ((with_reducible refine Below.step (by assumption) ?_ ?_); rotate_left; (first | omega | (simp <;> omega)))))⟩
  · obtain ⟨hz, hz3⟩ := szF_small hb
    have hz2 : szF2 left n0 n1 = szF (szF left n0) n1 := by unfold szF2; rw [if_neg (by omega)]
    have HZ := Lib.hid hz2
    have hz4 : szF left n0 ≤ 1048576 := by omega
    rcases Int.lt_or_le (szF left n0) n1 with hb1 | hb1
    · have hz5 := szF_big hb1
      clear hz2
      go_enter Try.func35, Try.ntmps35
      go_wp2_with (first | (go_at_call 114; refine (L_szIntS _ _ _ _ (by assumption) (by assumption) (by assumption) _).mono ?_; rintro e w' ⟨rfl, rfl⟩))
      go_ret
      exact ⟨ret_int (by rw [HZ.out, hz5]), (by repeat (first | (with_reducible exact Below.refl _ _) | (with_reducible assumption) | ((with_reducible refine Below.alloc ?_ ?_ _); rotate_left; (first | omega | (simp <;> omega))) | ((with_reducible refine Below.setCell ?_ ?_ _); rotate_left; (first | omega | (simp <;> omega))) | (with_reducible refine below_drewN ?_ _) | (with_reducible refine Below.drew ?_) | ((with_reducible refine Below.step (by assumption) ?_ ?_); rotate_left; (first | omega | (simp <;> omega)))))⟩
    · obtain ⟨hz5, hz6⟩ := szF_small hb1
      clear hz2
      go_enter Try.func35, Try.ntmps35
      go_wp2_with (first | (go_at_call 114; refine (L_szIntS _ _ _ _ (by assumption) (by assumption) (by assumption) _).mono ?_; rintro e w' ⟨rfl, rfl⟩))
      go_ret
      exact ⟨ret_int HZ.out.symm, (by repeat (first | (with_reducible exact Below.refl _ _) | (with_reducible assumption) | ((with_reducible refine Below.alloc ?_ ?_ _); rotate_left; (first | omega | (simp <;> omega))) | ((with_reducible refine Below.setCell ?_ ?_ _); rotate_left; (first | omega | (simp <;> omega))) | (with_reducible refine below_drewN ?_ _) | (with_reducible refine Below.drew ?_) | ((with_reducible refine Below.step (by assumption) ?_ ?_); rotate_left; (first | omega | (simp <;> omega)))))⟩
def OutAccum (x0 x1 : Int) (l0 : List Int) (l1 : List Int) (w : World) (e : Ending) (w' : World) : Prop :=
  ∃ g0 g1, e = .returned (vAccum x0 x1 (sl g0 l0.length) (sl g1 l1.length)) ∧ Own w' g0 3 (ints l0) ∧ RS w' 1 (some ⟨g0, 0, none⟩) l0.length l0.length (ints l0) ∧ Own w' g1 3 (ints l1) ∧ RS w' 1 (some ⟨g1, 0, none⟩) l1.length l1.length (ints l1) ∧ (w.heap.size ≤ g0 ∧ g0 < g1) ∧ Below w.heap.size w w'
set_option maxHeartbeats 400000 in
theorem L_toAccum {x0 x1 : Int} {A0 : Option Addr} {p0 : Nat} {l0 : List Int} {A1 : Option Addr} {p1 : Nat} {l1 : List Int} (w : World) (hs0 : l0.length ≤ 1048576) (hs1 : l1.length ≤ 1048576) (h0 : RS w 1 A0 l0.length p0 (ints l0)) (h1 : RS w 1 A1 l1.length p1 (ints l1)) :
    Calls Try.prog 37 #[(vAccum x0 x1 (.slice A0 l0.length p0) (.slice A1 l1.length p1))] w (OutAccum x0 x1 l0 l1 w) := by
  go_enter Try.func37, Try.ntmps37
  go_wp2_with fail
  refine (L_toIntS _ _ _ _ hs0 (by first | (with_reducible assumption) | ((with_reducible refine RS.step ?_ (by assumption)); repeat (first | (with_reducible exact Below.refl _ _) | (with_reducible assumption) | ((with_reducible refine Below.alloc ?_ ?_ _); rotate_left; (first | omega | (simp <;> omega))) | ((with_reducible refine Below.setCell ?_ ?_ _); rotate_left; (first | omega | (simp <;> omega))) | (with_reducible refine below_drewN ?_ _) | (with_reducible refine Below.drew ?_) | ((with_reducible refine Below.step (by assumption) ?_ ?_); rotate_left; (first | omega | (simp <;> omega))))))).mono ?_
  rintro e w' ⟨rfl, ho0, hr0, hb⟩; have hz := hb.size; (try simp at hz); have c0 := fun o => hb.cell (p := ⟨w.heap.size, o, none⟩) (by first | omega | (simp <;> omega)); have f0 := fun o => hb.frozen (p := ⟨w.heap.size, o, none⟩) (by first | omega | (simp <;> omega)); have z0 : w.heap.size < w'.heap.size := (by omega); have c1 := fun o => hb.cell (p := ⟨w.heap.size + 1, o, none⟩) (by first | omega | (simp <;> omega)); have f1 := fun o => hb.frozen (p := ⟨w.heap.size + 1, o, none⟩) (by first | omega | (simp <;> omega)); have z1 : w.heap.size + 1 < w'.heap.size := (by omega); have c2 := fun o => hb.cell (p := ⟨w.heap.size + 1 + 1, o, none⟩) (by first | omega | (simp <;> omega)); have f2 := fun o => hb.frozen (p := ⟨w.heap.size + 1 + 1, o, none⟩) (by first | omega | (simp <;> omega)); have z2 : w.heap.size + 1 + 1 < w'.heap.size := (by omega)
  simp at ho0 hr0
  have e0 := hb.size
  simp at e0
  have hb0 := hb
  have cc0 := c1
  have o0 := ho0.lt
  obtain ⟨w1, rfl⟩ : ∃ w1, w1 = w' := ⟨_, rfl⟩
  go_wp2_with fail
  refine (L_toIntS _ _ _ _ hs1 (by first | (with_reducible assumption) | ((with_reducible refine RS.step ?_ (by assumption)); repeat (first | (with_reducible exact Below.refl _ _) | (with_reducible assumption) | ((with_reducible refine Below.alloc ?_ ?_ _); rotate_left; (first | omega | (simp <;> omega))) | ((with_reducible refine Below.setCell ?_ ?_ _); rotate_left; (first | omega | (simp <;> omega))) | (with_reducible refine below_drewN ?_ _) | (with_reducible refine Below.drew ?_) | ((with_reducible refine Below.step (by assumption) ?_ ?_); rotate_left; (first | omega | (simp <;> omega))))))).mono ?_
  rintro e w' ⟨rfl, ho1, hr1, hb⟩; have hz := hb.size; (try simp at hz); have c0 := fun o => hb.cell (p := ⟨w.heap.size, o, none⟩) (by first | omega | (simp <;> omega)); have f0 := fun o => hb.frozen (p := ⟨w.heap.size, o, none⟩) (by first | omega | (simp <;> omega)); have z0 : w.heap.size < w'.heap.size := (by omega); have c1 := fun o => hb.cell (p := ⟨w.heap.size + 1, o, none⟩) (by first | omega | (simp <;> omega)); have f1 := fun o => hb.frozen (p := ⟨w.heap.size + 1, o, none⟩) (by first | omega | (simp <;> omega)); have z1 : w.heap.size + 1 < w'.heap.size := (by omega); have c2 := fun o => hb.cell (p := ⟨w.heap.size + 1 + 1, o, none⟩) (by first | omega | (simp <;> omega)); have f2 := fun o => hb.frozen (p := ⟨w.heap.size + 1 + 1, o, none⟩) (by first | omega | (simp <;> omega)); have z2 : w.heap.size + 1 + 1 < w'.heap.size := (by omega)
  simp at ho1 hr1
  have e1 := hb.size
  simp at e1
  have hb1 := hb
  have cc1 := c1
  have o1 := ho1.lt
  obtain ⟨w2, rfl⟩ : ∃ w2, w2 = w' := ⟨_, rfl⟩
  go_wp2
  refine bodyPost_ret (v := (vAccum x0 x1 (sl (w.heap.size + 1 + 1 + 1) l0.length) (sl w1.heap.size l1.length))) (by simp [results, Try.results37, go_sem, cc0, cc1]) rfl ⟨_, _, rfl, (by repeat (first | (with_reducible exact ho0) | ((with_reducible refine Own.far ?_ ?_ _); rotate_left; (first | omega | (simp <;> omega))) | (with_reducible refine Own.alloc ?_ _) | (with_reducible refine Own.drewN ?_ _) | (with_reducible refine Own.drew ?_) | (with_reducible refine Own.step (by assumption) ?_))), ?_, (by repeat (first | (with_reducible exact ho1) | ((with_reducible refine Own.far ?_ ?_ _); rotate_left; (first | omega | (simp <;> omega))) | (with_reducible refine Own.alloc ?_ _) | (with_reducible refine Own.drewN ?_ _) | (with_reducible refine Own.drew ?_) | (with_reducible refine Own.step (by assumption) ?_))), ?_, ⟨(by omega), (by omega)⟩, (by repeat (first | (with_reducible exact Below.refl _ _) | (with_reducible assumption) | ((with_reducible refine Below.alloc ?_ ?_ _); rotate_left; (first | omega | (simp <;> omega))) | ((with_reducible refine Below.setCell ?_ ?_ _); rotate_left; (first | omega | (simp <;> omega))) | (with_reducible refine below_drewN ?_ _) | (with_reducible refine Below.drew ?_) | ((with_reducible refine Below.step (by assumption) ?_ ?_); rotate_left; (first | omega | (simp <;> omega)))))⟩
  · exact Own.rs (t := 3) (by repeat (first | (with_reducible exact ho0) | ((with_reducible refine Own.far ?_ ?_ _); rotate_left; (first | omega | (simp <;> omega))) | (with_reducible refine Own.alloc ?_ _) | (with_reducible refine Own.drewN ?_ _) | (with_reducible refine Own.drew ?_) | (with_reducible refine Own.step (by assumption) ?_))) (by simp) hs0
  · exact Own.rs (t := 3) (by repeat (first | (with_reducible exact ho1) | ((with_reducible refine Own.far ?_ ?_ _); rotate_left; (first | omega | (simp <;> omega))) | (with_reducible refine Own.alloc ?_ _) | (with_reducible refine Own.drewN ?_ _) | (with_reducible refine Own.drew ?_) | (with_reducible refine Own.step (by assumption) ?_))) (by simp) hs1
set_option maxHeartbeats 400000 in
theorem L_eqAccum {x0 x1 : Int} {A0 : Option Addr} {p0 : Nat} {l0 : List Int} {A1 : Option Addr} {p1 : Nat} {l1 : List Int} {B0 : Option Addr} {d0 : Nat} {B1 : Option Addr} {d1 : Nat} (w : World) (h0 : RS w 1 A0 l0.length p0 (ints l0)) (h1 : RS w 1 A1 l1.length p1 (ints l1)) (k0 : RS w 1 B0 l0.length d0 (ints l0)) (k1 : RS w 1 B1 l1.length d1 (ints l1)) :
    Calls Try.prog 40 #[(vAccum x0 x1 (.slice A0 l0.length p0) (.slice A1 l1.length p1)), (vAccum x0 x1 (.slice B0 l0.length d0) (.slice B1 l1.length d1))] w fun e w' => e = .returned (.bool true) ∧ Below w.heap.size w w' := by
  go_enter Try.func40, Try.ntmps40
  go_wp2_with fail
  refine (L_eqIntS _ _ _ _ _ _ _ (by first | (with_reducible assumption) | ((with_reducible refine RS.step ?_ (by assumption)); repeat (first | (with_reducible exact Below.refl _ _) | (with_reducible assumption) | ((with_reducible refine Below.alloc ?_ ?_ _); rotate_left; (first | omega | (simp <;> omega))) | ((with_reducible refine Below.setCell ?_ ?_ _); rotate_left; (first | omega | (simp <;> omega))) | (with_reducible refine below_drewN ?_ _) | (with_reducible refine Below.drew ?_) | ((with_reducible refine Below.step (by assumption) ?_ ?_); rotate_left; (first | omega | (simp <;> omega)))))) (by first | (with_reducible assumption) | ((with_reducible refine RS.step ?_ (by assumption)); repeat (first | (with_reducible exact Below.refl _ _) | (with_reducible assumption) | ((with_reducible refine Below.alloc ?_ ?_ _); rotate_left; (first | omega | (simp <;> omega))) | ((with_reducible refine Below.setCell ?_ ?_ _); rotate_left; (first | omega | (simp <;> omega))) | (with_reducible refine below_drewN ?_ _) | (with_reducible refine Below.drew ?_) | ((with_reducible refine Below.step (by assumption) ?_ ?_); rotate_left; (first | omega | (simp <;> omega))))))).mono ?_
  rintro e w' ⟨rfl, hb⟩; have hz := hb.size; (try simp at hz); have c0 := fun o => hb.cell (p := ⟨w.heap.size, o, none⟩) (by first | omega | (simp <;> omega)); have f0 := fun o => hb.frozen (p := ⟨w.heap.size, o, none⟩) (by first | omega | (simp <;> omega)); have z0 : w.heap.size < w'.heap.size := (by omega); have c1 := fun o => hb.cell (p := ⟨w.heap.size + 1, o, none⟩) (by first | omega | (simp <;> omega)); have f1 := fun o => hb.frozen (p := ⟨w.heap.size + 1, o, none⟩) (by first | omega | (simp <;> omega)); have z1 : w.heap.size + 1 < w'.heap.size := (by omega)
  go_wp2_with fail
  refine (L_eqIntS _ _ _ _ _ _ _ (by first | (with_reducible assumption) | ((with_reducible refine RS.step ?_ (by assumption)); repeat (first | (with_reducible exact Below.refl _ _) | (with_reducible assumption) | ((with_reducible refine Below.alloc ?_ ?_ _); rotate_left; (first | omega | (simp <;> omega))) | ((with_reducible refine Below.setCell ?_ ?_ _); rotate_left; (first | omega | (simp <;> omega))) | (with_reducible refine below_drewN ?_ _) | (with_reducible refine Below.drew ?_) | ((with_reducible refine Below.step (by assumption) ?_ ?_); rotate_left; (first | omega | (simp <;> omega)))))) (by first | (with_reducible assumption) | ((with_reducible refine RS.step ?_ (by assumption)); repeat (first | (with_reducible exact Below.refl _ _) | (with_reducible assumption) | ((with_reducible refine Below.alloc ?_ ?_ _); rotate_left; (first | omega | (simp <;> omega))) | ((with_reducible refine Below.setCell ?_ ?_ _); rotate_left; (first | omega | (simp <;> omega))) | (with_reducible refine below_drewN ?_ _) | (with_reducible refine Below.drew ?_) | ((with_reducible refine Below.step (by assumption) ?_ ?_); rotate_left; (first | omega | (simp <;> omega))))))).mono ?_
  rintro e w' ⟨rfl, hb⟩; have hz := hb.size; (try simp at hz); have c0 := fun o => hb.cell (p := ⟨w.heap.size, o, none⟩) (by first | omega | (simp <;> omega)); have f0 := fun o => hb.frozen (p := ⟨w.heap.size, o, none⟩) (by first | omega | (simp <;> omega)); have z0 : w.heap.size < w'.heap.size := (by omega); have c1 := fun o => hb.cell (p := ⟨w.heap.size + 1, o, none⟩) (by first | omega | (simp <;> omega)); have f1 := fun o => hb.frozen (p := ⟨w.heap.size + 1, o, none⟩) (by first | omega | (simp <;> omega)); have z1 : w.heap.size + 1 < w'.heap.size := (by omega)
  go_wp2
  go_ret
  exact ⟨rfl, (by repeat (first | (with_reducible exact Below.refl _ _) | (with_reducible assumption) | ((with_reducible refine Below.alloc ?_ ?_ _); rotate_left; (first | omega | (simp <;> omega))) | ((with_reducible refine Below.setCell ?_ ?_ _); rotate_left; (first | omega | (simp <;> omega))) | (with_reducible refine below_drewN ?_ _) | (with_reducible refine Below.drew ?_) | ((with_reducible refine Below.step (by assumption) ?_ ?_); rotate_left; (first | omega | (simp <;> omega)))))⟩
theorem Arg.accum {H : Type} {enc : TypeId × Value → H} {W : World} {v : Value} (h : Arg enc W 68 v) : ∃ (x0 x1 : Int) (A0 : Option Addr) (p0 : Nat) (l0 : List Int) (A1 : Option Addr) (p1 : Nat) (l1 : List Int), v = (vAccum x0 x1 (.slice A0 l0.length p0) (.slice A1 l1.length p1)) ∧ RS W 1 A0 l0.length p0 (ints l0) ∧ RS W 1 A1 l1.length p1 (ints l1) := by
  obtain ⟨cs, rfl, hc⟩ := h.struct Try.underlying68
  have hl := (hc.struct_len Try.underlying68).trans (show Try.prog.cellsOf 68 = 4 by kernel_rfl)
  match cs, hl with
  | [y0, y1, y2, y3], _ =>
    obtain ⟨x0, q0, _⟩ := (hc.fieldAt Try.underlying68 0 3 0 1 rfl T.cellInt).int Try.underlying3
    obtain rfl : y0 = _ := List.head_eq_of_cons_eq q0
    obtain ⟨x1, q1, _⟩ := (hc.fieldAt Try.underlying68 1 3 1 1 rfl T.cellInt).int Try.underlying3
    obtain rfl : y1 = _ := List.head_eq_of_cons_eq q1
    obtain ⟨v0, l0, q2, r0, _⟩ := (hc.fieldAt Try.underlying68 2 36 2 1 rfl (by kernel_rfl)).intRow Try.underlying36 Try.underlying3 T.cellInt
    obtain rfl : y2 = _ := List.head_eq_of_cons_eq q2
    obtain ⟨v1, l1, q3, r1, _⟩ := (hc.fieldAt Try.underlying68 3 36 3 1 rfl (by kernel_rfl)).intRow Try.underlying36 Try.underlying3 T.cellInt
    obtain rfl : y3 = _ := List.head_eq_of_cons_eq q3
    have u0 := r0
    obtain ⟨_, A0, p0, rfl, _⟩ := r0
    have u1 := r1
    obtain ⟨_, A1, p1, rfl, _⟩ := r1
    exact ⟨x0, x1, A0, p0, l0, A1, p1, l1, rfl, u0, u1⟩
abbrev vTexture (x0 : Int) (s0 : Value) : Value := .agg #[.int .i64 x0, s0]
abbrev vLogged (x0 : Int) (s0 : Value) : Value := .agg #[.int .i64 x0, s0]
end Go.Proofs.Ythfnldjldfkmnaa
