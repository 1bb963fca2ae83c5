/- MADE BY PROGRAM (genrow.py). Structs of ints with slices of ints and bools: the laws' szX, toX, eqX (on equal fields); an argument of that type. -/
import Derived.Test.YtlepnjahpmlccaaDoorInts
import Derived.Test.YtlepnjahpmlccaaDoorBools
import Derived.Test.YtlepnjahpmlccaaDoorOpen
namespace Go.Proofs.YtlepnjahpmlccaaDoor
open Go.ChangeShapes Go.WideShapes Go.ChangeAt Go.RowKit
set_option linter.unusedVariables false
def szF2 (left : Int) (n m : Nat) : Int := if szF left n < 0 then -1 else szF (szF left n) m
theorem szF_or (left : Int) (n : Nat) : szF left n = -1 ∨ (0 ≤ szF left n ∧ szF left n ≤ left ∧ n ≤ left) := by
  rcases Int.lt_or_le left n with h | h
  · exact .inl (szF_big h)
  · have := szF_small h; exact .inr ⟨this.1, this.2, h⟩
theorem szF2_or (left : Int) (n m : Nat) : szF2 left n m = -1 ∨ (0 ≤ szF2 left n m ∧ szF2 left n m ≤ left ∧ n ≤ left ∧ m ≤ left) := by
  unfold szF2
  rcases szF_or left n with h | ⟨h1, h2, h3⟩
  · rw [h]; exact .inl rfl
  · rw [if_neg (by omega)]
    rcases szF_or (szF left n) m with h | ⟨h4, h5, h6⟩
    · exact .inl h
    · exact .inr ⟨h4, by omega, h3, by omega⟩
abbrev vImage (x0 x1 : Int) (s0 : Value) : Value := .agg #[.int .i64 x0, .int .i64 x1, s0]
abbrev vFilm (x0 x1 : Int) (s0 s1 : Value) : Value := .agg #[.int .i64 x0, .int .i64 x1, s0, s1]
abbrev vAccum (x0 x1 : Int) (s0 s1 : Value) : Value := .agg #[.int .i64 x0, .int .i64 x1, s0, s1]
abbrev vTexture (x0 : Int) (s0 : Value) : Value := .agg #[.int .i64 x0, s0]
abbrev vLogged (x0 : Int) (s0 : Value) : Value := .agg #[.int .i64 x0, s0]
set_option maxHeartbeats 400000 in
theorem L_szLogged {x0 : Int} {A0 : Option Addr} {n0 p0 : Nat} {left : Int} (w : World) (hl : 0 ≤ left) (hl2 : left ≤ 1048576) (hn : n0 ≤ maxLen) :
    Calls Tryd.prog 14 #[(vLogged x0 (.slice A0 n0 p0)), .int .i64 left] w fun e w' => e = .returned (.int .i64 (szF left n0)) ∧ Below w.heap.size w w' := by
  rcases Int.lt_or_le left n0 with hb | hb
  · have hz := szF_big hb
    go_enter Tryd.func14, Tryd.ntmps14
    go_wp2_with (go_at_call 33; refine (L_szIntS _ _ _ _ hl hl2 hn _).mono ?_; rintro e w' ⟨rfl, rfl⟩)
    go_ret
    exact ⟨ret_int hz.symm, (by repeat (first | (with_reducible exact Below.refl _ _) | (with_reducible assumption) | ((with_reducible refine Below.alloc ?_ ?_ _); rotate_left; (first | omega | (simp <;> omega))) | ((with_reducible refine Below.setCell ?_ ?_ _); rotate_left; (first | omega | (simp <;> omega))) | (with_reducible refine below_drewN ?_ _) | (with_reducible refine Below.drew ?_) | ((with_reducible refine Below.step (by assumption) ?_ ?_); rotate_left; (first | omega | (simp <;> omega)))))⟩
  · have hz := (szF_small hb).1
    go_enter Tryd.func14, Tryd.ntmps14
    go_wp2_with (go_at_call 33; refine (L_szIntS _ _ _ _ hl hl2 hn _).mono ?_; rintro e w' ⟨rfl, rfl⟩)
    go_ret
    exact ⟨rfl, (by repeat (first | (with_reducible exact Below.refl _ _) | (with_reducible assumption) | ((with_reducible refine Below.alloc ?_ ?_ _); rotate_left; (first | omega | (simp <;> omega))) | ((with_reducible refine Below.setCell ?_ ?_ _); rotate_left; (first | omega | (simp <;> omega))) | (with_reducible refine below_drewN ?_ _) | (with_reducible refine Below.drew ?_) | ((with_reducible refine Below.step (by assumption) ?_ ?_); rotate_left; (first | omega | (simp <;> omega)))))⟩
def OutLogged (x0 : Int) (l0 : List Int) (w : World) (e : Ending) (w' : World) : Prop :=
  ∃ g0, e = .returned (vLogged x0 (sl g0 l0.length)) ∧ Own w' g0 3 (ints l0) ∧ RS w' 1 (some ⟨g0, 0, none⟩) l0.length l0.length (ints l0) ∧ (w.heap.size ≤ g0) ∧ Below w.heap.size w w'
set_option maxHeartbeats 400000 in
theorem L_toLogged {x0 : Int} {A0 : Option Addr} {p0 : Nat} {l0 : List Int} (w : World) (hs0 : l0.length ≤ 1048576) (h0 : RS w 1 A0 l0.length p0 (ints l0)) :
    Calls Tryd.prog 16 #[(vLogged x0 (.slice A0 l0.length p0))] w (OutLogged x0 l0 w) := by
  go_enter Tryd.func16, Tryd.ntmps16
  go_wp2_with fail
  refine (L_toIntS _ _ _ _ hs0 (by first | (with_reducible assumption) | ((with_reducible refine RS.step ?_ (by assumption)); repeat (first | (with_reducible exact Below.refl _ _) | (with_reducible assumption) | ((with_reducible refine Below.alloc ?_ ?_ _); rotate_left; (first | omega | (simp <;> omega))) | ((with_reducible refine Below.setCell ?_ ?_ _); rotate_left; (first | omega | (simp <;> omega))) | (with_reducible refine below_drewN ?_ _) | (with_reducible refine Below.drew ?_) | ((with_reducible refine Below.step (by assumption) ?_ ?_); rotate_left; (first | omega | (simp <;> omega))))))).mono ?_
  rintro e w' ⟨rfl, ho0, hr0, hb⟩; have hz := hb.size; (try simp at hz); have c0 := fun o => hb.cell (p := ⟨w.heap.size, o, none⟩) (by first | omega | (simp <;> omega)); have f0 := fun o => hb.frozen (p := ⟨w.heap.size, o, none⟩) (by first | omega | (simp <;> omega)); have z0 : w.heap.size < w'.heap.size := (by omega); have c1 := fun o => hb.cell (p := ⟨w.heap.size + 1, o, none⟩) (by first | omega | (simp <;> omega)); have f1 := fun o => hb.frozen (p := ⟨w.heap.size + 1, o, none⟩) (by first | omega | (simp <;> omega)); have z1 : w.heap.size + 1 < w'.heap.size := (by omega); have c2 := fun o => hb.cell (p := ⟨w.heap.size + 1 + 1, o, none⟩) (by first | omega | (simp <;> omega)); have f2 := fun o => hb.frozen (p := ⟨w.heap.size + 1 + 1, o, none⟩) (by first | omega | (simp <;> omega)); have z2 : w.heap.size + 1 + 1 < w'.heap.size := (by omega)
  simp at ho0 hr0
  have e0 := hb.size
  simp at e0
  have hb0 := hb
  have cc0 := c1
  have o0 := ho0.lt
  obtain ⟨w1, rfl⟩ : ∃ w1, w1 = w' := ⟨_, rfl⟩
  go_wp2
  refine bodyPost_ret (v := (vLogged x0 (sl (w.heap.size + 1 + 1 + 1) l0.length))) (by simp [results, Tryd.results16, go_sem, cc0]) rfl ⟨_, rfl, (by repeat (first | (with_reducible exact ho0) | ((with_reducible refine Own.far ?_ ?_ _); rotate_left; (first | omega | (simp <;> omega))) | (with_reducible refine Own.alloc ?_ _) | (with_reducible refine Own.drewN ?_ _) | (with_reducible refine Own.drew ?_) | (with_reducible refine Own.step (by assumption) ?_))), ?_, (by omega), (by repeat (first | (with_reducible exact Below.refl _ _) | (with_reducible assumption) | ((with_reducible refine Below.alloc ?_ ?_ _); rotate_left; (first | omega | (simp <;> omega))) | ((with_reducible refine Below.setCell ?_ ?_ _); rotate_left; (first | omega | (simp <;> omega))) | (with_reducible refine below_drewN ?_ _) | (with_reducible refine Below.drew ?_) | ((with_reducible refine Below.step (by assumption) ?_ ?_); rotate_left; (first | omega | (simp <;> omega)))))⟩
  · exact Own.rs (t := 3) (by repeat (first | (with_reducible exact ho0) | ((with_reducible refine Own.far ?_ ?_ _); rotate_left; (first | omega | (simp <;> omega))) | (with_reducible refine Own.alloc ?_ _) | (with_reducible refine Own.drewN ?_ _) | (with_reducible refine Own.drew ?_) | (with_reducible refine Own.step (by assumption) ?_))) (by simp) hs0
set_option maxHeartbeats 400000 in
theorem L_eqLogged {x0 : Int} {A0 : Option Addr} {p0 : Nat} {l0 : List Int} {B0 : Option Addr} {d0 : Nat} (w : World) (h0 : RS w 1 A0 l0.length p0 (ints l0)) (k0 : RS w 1 B0 l0.length d0 (ints l0)) :
    Calls Tryd.prog 18 #[(vLogged x0 (.slice A0 l0.length p0)), (vLogged x0 (.slice B0 l0.length d0))] w fun e w' => e = .returned (.bool true) ∧ Below w.heap.size w w' := by
  go_enter Tryd.func18, Tryd.ntmps18
  go_wp2_with fail
  refine (L_eqIntS _ _ _ _ _ _ _ (by first | (with_reducible assumption) | ((with_reducible refine RS.step ?_ (by assumption)); repeat (first | (with_reducible exact Below.refl _ _) | (with_reducible assumption) | ((with_reducible refine Below.alloc ?_ ?_ _); rotate_left; (first | omega | (simp <;> omega))) | ((with_reducible refine Below.setCell ?_ ?_ _); rotate_left; (first | omega | (simp <;> omega))) | (with_reducible refine below_drewN ?_ _) | (with_reducible refine Below.drew ?_) | ((with_reducible refine Below.step (by assumption) ?_ ?_); rotate_left; (first | omega | (simp <;> omega)))))) (by first | (with_reducible assumption) | ((with_reducible refine RS.step ?_ (by assumption)); repeat (first | (with_reducible exact Below.refl _ _) | (with_reducible assumption) | ((with_reducible refine Below.alloc ?_ ?_ _); rotate_left; (first | omega | (simp <;> omega))) | ((with_reducible refine Below.setCell ?_ ?_ _); rotate_left; (first | omega | (simp <;> omega))) | (with_reducible refine below_drewN ?_ _) | (with_reducible refine Below.drew ?_) | ((with_reducible refine Below.step (by assumption) ?_ ?_); rotate_left; (first | omega | (simp <;> omega))))))).mono ?_
  rintro e w' ⟨rfl, hb⟩; have hz := hb.size; (try simp at hz); have c0 := fun o => hb.cell (p := ⟨w.heap.size, o, none⟩) (by first | omega | (simp <;> omega)); have f0 := fun o => hb.frozen (p := ⟨w.heap.size, o, none⟩) (by first | omega | (simp <;> omega)); have z0 : w.heap.size < w'.heap.size := (by omega); have c1 := fun o => hb.cell (p := ⟨w.heap.size + 1, o, none⟩) (by first | omega | (simp <;> omega)); have f1 := fun o => hb.frozen (p := ⟨w.heap.size + 1, o, none⟩) (by first | omega | (simp <;> omega)); have z1 : w.heap.size + 1 < w'.heap.size := (by omega)
  go_wp2
  go_ret
  exact ⟨rfl, (by repeat (first | (with_reducible exact Below.refl _ _) | (with_reducible assumption) | ((with_reducible refine Below.alloc ?_ ?_ _); rotate_left; (first | omega | (simp <;> omega))) | ((with_reducible refine Below.setCell ?_ ?_ _); rotate_left; (first | omega | (simp <;> omega))) | (with_reducible refine below_drewN ?_ _) | (with_reducible refine Below.drew ?_) | ((with_reducible refine Below.step (by assumption) ?_ ?_); rotate_left; (first | omega | (simp <;> omega)))))⟩
theorem Arg.logged {H : Type} {enc : TypeId × Value → H} {W : World} {v : Value} (h : Arg enc W 34 v) : ∃ (x0 : Int) (A0 : Option Addr) (p0 : Nat) (l0 : List Int), v = (vLogged x0 (.slice A0 l0.length p0)) ∧ RS W 1 A0 l0.length p0 (ints l0) := by
  obtain ⟨cs, rfl, hc⟩ := h.struct Tryd.underlying34
  have hl := (hc.struct_len Tryd.underlying34).trans (show Tryd.prog.cellsOf 34 = 2 by kernel_rfl)
  match cs, hl with
  | [y0, y1], _ =>
    obtain ⟨x0, q0, _⟩ := (hc.fieldAt Tryd.underlying34 0 3 0 1 rfl T.cellInt).int Tryd.underlying3
    obtain rfl : y0 = _ := List.head_eq_of_cons_eq q0
    obtain ⟨v0, l0, q1, r0, _⟩ := (hc.fieldAt Tryd.underlying34 1 32 1 1 rfl (by kernel_rfl)).intRow Tryd.underlying32 Tryd.underlying3 T.cellInt
    obtain rfl : y1 = _ := List.head_eq_of_cons_eq q1
    have u0 := r0
    obtain ⟨_, A0, p0, rfl, _⟩ := r0
    exact ⟨x0, A0, p0, l0, rfl, u0⟩
end Go.Proofs.YtlepnjahpmlccaaDoor
