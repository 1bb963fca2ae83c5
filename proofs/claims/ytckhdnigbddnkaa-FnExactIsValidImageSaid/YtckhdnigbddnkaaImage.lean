/- Images: the laws' szImage, toImage, eqImage; IsValidImage of the reference and of the program. -/
import Derived.Test.YtckhdnigbddnkaaWithin
import Derived.Test.YtckhdnigbddnkaaOpen
namespace Go.Proofs.Ytckhdnigbddnkaa
open Go.ChangeShapes Go.WideShapes Go.ChangeAt Go.RowKit
set_option linter.unusedVariables false
abbrev vImage (W H : Int) (s : Value) : Value := .agg #[.int .i64 W, .int .i64 H, s]
set_option maxHeartbeats 400000 in
theorem L_szImage (W H : Int) (A : Option Addr) (n c : Nat) (left : Int) (hl : 0 ≤ left) (hl2 : left ≤ 1048576) (hn : n ≤ maxLen) (w : World) :
    Calls Try.prog 27 #[vImage W H (.slice A n c), .int .i64 left] w fun e w' => e = .returned (.int .i64 (szF left n)) ∧ Below w.heap.size w w' := by
  rcases Int.lt_or_le left n with hb | hb
  · have hz := szF_big hb
    go_enter Try.func27, Try.ntmps27
    go_wp2_with (go_at_call 61; refine (L_szIntS _ _ _ _ hl hl2 hn _).mono ?_; rintro e w' ⟨rfl, rfl⟩)
    go_ret
    exact ⟨ret_int hz.symm, (by repeat (first | (with_reducible exact Below.refl _ _) | (with_reducible assumption) | refine Below.alloc ?_ (by first | omega | (simp <;> omega)) _ | refine Below.setCell ?_ (by first | omega | (simp <;> omega)) _ | refine below_drewN ?_ _ | refine Below.drew ?_ | refine Below.step (by assumption) ?_ (by first | omega | (simp <;> omega))))⟩
  · have hz := (szF_small hb).1
    go_enter Try.func27, Try.ntmps27
    go_wp2_with (go_at_call 61; refine (L_szIntS _ _ _ _ hl hl2 hn _).mono ?_; rintro e w' ⟨rfl, rfl⟩)
    go_ret
    exact ⟨rfl, (by repeat (first | (with_reducible exact Below.refl _ _) | (with_reducible assumption) | refine Below.alloc ?_ (by first | omega | (simp <;> omega)) _ | refine Below.setCell ?_ (by first | omega | (simp <;> omega)) _ | refine below_drewN ?_ _ | refine Below.drew ?_ | refine Below.step (by assumption) ?_ (by first | omega | (simp <;> omega))))⟩
def OutImage (W H : Int) (l : List Int) (w : World) (e : Ending) (w' : World) : Prop :=
  ∃ g, e = .returned (vImage W H (sl g l.length)) ∧ Own w' g 3 (ints l) ∧ w.heap.size ≤ g ∧ Below w.heap.size w w'
set_option maxHeartbeats 400000 in
theorem L_toImage (W H : Int) (A : Option Addr) (c lo hi : Nat) (l : List Int) (w : World) (h : Rd w lo hi 1 (.slice A l.length c) l.length (ints l)) (hh : hi ≤ w.heap.size) (hs : l.length ≤ 1048576) :
    Calls Try.prog 29 #[vImage W H (.slice A l.length c)] w (OutImage W H l w) := by
  have HH := Lib.hid h
  have hz0 : hi ≤ w.heap.size + 1 + 1 + 1 := by omega
  clear h
  go_enter Try.func29, Try.ntmps29
  go_wp2_with fail
  refine (L_toIntS _ lo hi l _ (HH.out.below (B := w.heap.size) (by repeat (first | (with_reducible exact Below.refl _ _) | (with_reducible assumption) | refine Below.alloc ?_ (by first | omega | (simp <;> omega)) _ | refine Below.setCell ?_ (by first | omega | (simp <;> omega)) _ | refine below_drewN ?_ _ | refine Below.drew ?_ | refine Below.step (by assumption) ?_ (by first | omega | (simp <;> omega)))) hh) (by simp; omega) hs).mono ?_
  rintro e w' ⟨rfl, ho, hb⟩; have hz := hb.size; (try simp at hz); have c0 := fun o => hb.cell (p := ⟨w.heap.size, o, none⟩) (by first | omega | (simp <;> omega)); have f0 := fun o => hb.frozen (p := ⟨w.heap.size, o, none⟩) (by first | omega | (simp <;> omega)); have z0 : w.heap.size < w'.heap.size := (by omega); have c1 := fun o => hb.cell (p := ⟨w.heap.size + 1, o, none⟩) (by first | omega | (simp <;> omega)); have f1 := fun o => hb.frozen (p := ⟨w.heap.size + 1, o, none⟩) (by first | omega | (simp <;> omega)); have z1 : w.heap.size + 1 < w'.heap.size := (by omega); have c2 := fun o => hb.cell (p := ⟨w.heap.size + 1 + 1, o, none⟩) (by first | omega | (simp <;> omega)); have f2 := fun o => hb.frozen (p := ⟨w.heap.size + 1 + 1, o, none⟩) (by first | omega | (simp <;> omega)); have z2 : w.heap.size + 1 + 1 < w'.heap.size := (by omega)
  simp at ho
  go_wp2
  refine bodyPost_ret (v := vImage W H (sl (w.heap.size + 1 + 1 + 1) l.length)) (by simp [results, Try.results29, go_sem, c1]) rfl ⟨_, rfl, (by repeat (first | (with_reducible exact ho) | refine Own.far ?_ (by simp <;> omega) _ | refine Own.alloc ?_ _ | refine Own.drewN ?_ _)), (by omega), (by repeat (first | (with_reducible exact Below.refl _ _) | (with_reducible assumption) | refine Below.alloc ?_ (by first | omega | (simp <;> omega)) _ | refine Below.setCell ?_ (by first | omega | (simp <;> omega)) _ | refine below_drewN ?_ _ | refine Below.drew ?_ | refine Below.step (by assumption) ?_ (by first | omega | (simp <;> omega))))⟩
set_option maxHeartbeats 400000 in
theorem L_eqImage (W H : Int) (A A' : Option Addr) (c c' lo hi lo' hi' : Nat) (l : List Int) (w : World) (h : Rd w lo hi 1 (.slice A l.length c) l.length (ints l)) (h' : Rd w lo' hi' 1 (.slice A' l.length c') l.length (ints l)) (hh : hi ≤ w.heap.size) (hh' : hi' ≤ w.heap.size) :
    Calls Try.prog 31 #[vImage W H (.slice A l.length c), vImage W H (.slice A' l.length c')] w fun e w' => e = .returned (.bool true) ∧ Below w.heap.size w w' := by
  have HH := Lib.hid h
  have HH' := Lib.hid h'
  have hz0 : hi ≤ w.heap.size + 1 + 1 := by omega
  have hz1 : hi' ≤ w.heap.size + 1 + 1 := by omega
  clear h h'
  go_enter Try.func31, Try.ntmps31
  go_wp2_with fail
  refine (L_eqIntS _ _ lo hi lo' hi' l l _ (HH.out.below (B := w.heap.size) (by repeat (first | (with_reducible exact Below.refl _ _) | (with_reducible assumption) | refine Below.alloc ?_ (by first | omega | (simp <;> omega)) _ | refine Below.setCell ?_ (by first | omega | (simp <;> omega)) _ | refine below_drewN ?_ _ | refine Below.drew ?_ | refine Below.step (by assumption) ?_ (by first | omega | (simp <;> omega)))) hh) (HH'.out.below (B := w.heap.size) (by repeat (first | (with_reducible exact Below.refl _ _) | (with_reducible assumption) | refine Below.alloc ?_ (by first | omega | (simp <;> omega)) _ | refine Below.setCell ?_ (by first | omega | (simp <;> omega)) _ | refine below_drewN ?_ _ | refine Below.drew ?_ | refine Below.step (by assumption) ?_ (by first | omega | (simp <;> omega)))) hh') (by simp; omega) (by simp; omega)).mono ?_
  rintro e w' ⟨rfl, hb⟩; have hz := hb.size; (try simp at hz); have c0 := fun o => hb.cell (p := ⟨w.heap.size, o, none⟩) (by first | omega | (simp <;> omega)); have f0 := fun o => hb.frozen (p := ⟨w.heap.size, o, none⟩) (by first | omega | (simp <;> omega)); have z0 : w.heap.size < w'.heap.size := (by omega); have c1 := fun o => hb.cell (p := ⟨w.heap.size + 1, o, none⟩) (by first | omega | (simp <;> omega)); have f1 := fun o => hb.frozen (p := ⟨w.heap.size + 1, o, none⟩) (by first | omega | (simp <;> omega)); have z1 : w.heap.size + 1 < w'.heap.size := (by omega)
  go_wp2
  go_ret
  exact ⟨rfl, (by repeat (first | (with_reducible exact Below.refl _ _) | (with_reducible assumption) | refine Below.alloc ?_ (by first | omega | (simp <;> omega)) _ | refine Below.setCell ?_ (by first | omega | (simp <;> omega)) _ | refine below_drewN ?_ _ | refine Below.drew ?_ | refine Below.step (by assumption) ?_ (by first | omega | (simp <;> omega))))⟩
end Go.Proofs.Ytckhdnigbddnkaa
