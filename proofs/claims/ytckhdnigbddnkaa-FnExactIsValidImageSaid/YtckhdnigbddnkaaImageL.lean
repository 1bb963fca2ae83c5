/- The law FnExactIsValidImage. -/
import Derived.Test.YtckhdnigbddnkaaImageV
namespace Go.Proofs.Ytckhdnigbddnkaa
open Go.ChangeShapes Go.WideShapes Go.ChangeAt Go.RowKit
set_option linter.unusedVariables false
set_option maxHeartbeats 1000000 in
theorem L_ExIsValidImage (W H : Int) (A : Option Addr) (c : Nat) (l : List Int) (w : World) (h : Rd w 0 w.heap.size 1 (.slice A l.length c) l.length (ints l)) :
    Calls Try.prog 7 #[vImage W H (.slice A l.length c)] w fun e w' => e = .returned (.bool true) ∧ Below w.heap.size w w' := by
  have hn := h.len
  have HH := Lib.hid h
  clear h
  by_cases hs : l.length ≤ 1048576
  case neg =>
    have hz := szF_big (left := 1048576) (n := l.length) (by omega)
    clear hs
    go_enter Try.func7, Try.ntmps7
    go_wp2_with (go_at_call 27; refine (L_szImage _ _ _ _ _ _ (by omega) (by omega) hn _).mono ?_; rintro e w' ⟨rfl, hb⟩; have hz := hb.size; (try simp at hz); have c0 := fun o => hb.cell (p := ⟨w.heap.size, o, none⟩) (by first | omega | (simp <;> omega)); have f0 := fun o => hb.frozen (p := ⟨w.heap.size, o, none⟩) (by first | omega | (simp <;> omega)); have z0 : w.heap.size < w'.heap.size := (by omega))
    go_ret
    exact ⟨rfl, (by repeat (first | (with_reducible exact Below.refl _ _) | (with_reducible assumption) | refine Below.alloc ?_ (by first | omega | (simp <;> omega)) _ | refine Below.setCell ?_ (by first | omega | (simp <;> omega)) _ | refine below_drewN ?_ _ | refine Below.drew ?_ | refine Below.step (by assumption) ?_ (by first | omega | (simp <;> omega))))⟩
  case pos =>
    obtain ⟨hz, hz'⟩ := szF_small (left := 1048576) (n := l.length) (by omega)
    go_enter Try.func7, Try.ntmps7
    go_wp2_with fail
    refine (L_szImage _ _ _ _ _ _ (by omega) (by omega) hn _).mono ?_
    rintro e w' ⟨rfl, hb⟩; have hz := hb.size; (try simp at hz); have c0 := fun o => hb.cell (p := ⟨w.heap.size, o, none⟩) (by first | omega | (simp <;> omega)); have f0 := fun o => hb.frozen (p := ⟨w.heap.size, o, none⟩) (by first | omega | (simp <;> omega)); have z0 : w.heap.size < w'.heap.size := (by omega)
    have hB1 : Below w.heap.size w w' := (by repeat (first | (with_reducible exact Below.refl _ _) | (with_reducible assumption) | refine Below.alloc ?_ (by first | omega | (simp <;> omega)) _ | refine Below.setCell ?_ (by first | omega | (simp <;> omega)) _ | refine below_drewN ?_ _ | refine Below.drew ?_ | refine Below.step (by assumption) ?_ (by first | omega | (simp <;> omega))))
    go_wp2_with fail
    refine (L_toImage _ _ _ _ _ _ l _ (HH.out.below hB1 (Nat.le_refl _)) hB1.size hs).mono ?_
    rintro e w' ⟨g1, rfl, ho1, hg1, hb⟩; have hz := hb.size; (try simp at hz); have c0 := fun o => hb.cell (p := ⟨w.heap.size, o, none⟩) (by first | omega | (simp <;> omega)); have f0 := fun o => hb.frozen (p := ⟨w.heap.size, o, none⟩) (by first | omega | (simp <;> omega)); have z0 : w.heap.size < w'.heap.size := (by omega)
    have hB2 : Below w.heap.size w w' := (by repeat (first | (with_reducible exact Below.refl _ _) | (with_reducible assumption) | refine Below.alloc ?_ (by first | omega | (simp <;> omega)) _ | refine Below.setCell ?_ (by first | omega | (simp <;> omega)) _ | refine below_drewN ?_ _ | refine Below.drew ?_ | refine Below.step (by assumption) ?_ (by first | omega | (simp <;> omega))))
    have hO1 := ho1.lt
    go_wp2_with fail
    refine (S_IsValidImage _ _ _ _ 0 w'.heap.size l _ (ho1.sl (by simp) (Nat.zero_le _) hO1 hs) (Nat.le_refl _)).mono ?_
    rintro e w' ⟨rfl, hb⟩; have hz := hb.size; (try simp at hz); have c0 := fun o => hb.cell (p := ⟨w.heap.size, o, none⟩) (by first | omega | (simp <;> omega)); have f0 := fun o => hb.frozen (p := ⟨w.heap.size, o, none⟩) (by first | omega | (simp <;> omega)); have z0 : w.heap.size < w'.heap.size := (by omega)
    have hB3 : Below w.heap.size w w' := (by repeat (first | (with_reducible exact Below.refl _ _) | (with_reducible assumption) | refine Below.alloc ?_ (by first | omega | (simp <;> omega)) _ | refine Below.setCell ?_ (by first | omega | (simp <;> omega)) _ | refine below_drewN ?_ _ | refine Below.drew ?_ | refine Below.step (by assumption) ?_ (by first | omega | (simp <;> omega))))
    go_wp2_with fail
    refine (L_toImage _ _ _ _ _ _ l _ (HH.out.below hB3 (Nat.le_refl _)) hB3.size hs).mono ?_
    rintro e w' ⟨g2, rfl, ho2, hg2, hb⟩; have hz := hb.size; (try simp at hz); have c0 := fun o => hb.cell (p := ⟨w.heap.size, o, none⟩) (by first | omega | (simp <;> omega)); have f0 := fun o => hb.frozen (p := ⟨w.heap.size, o, none⟩) (by first | omega | (simp <;> omega)); have z0 : w.heap.size < w'.heap.size := (by omega)
    have hB4 : Below w.heap.size w w' := (by repeat (first | (with_reducible exact Below.refl _ _) | (with_reducible assumption) | refine Below.alloc ?_ (by first | omega | (simp <;> omega)) _ | refine Below.setCell ?_ (by first | omega | (simp <;> omega)) _ | refine below_drewN ?_ _ | refine Below.drew ?_ | refine Below.step (by assumption) ?_ (by first | omega | (simp <;> omega))))
    have hO2 := ho2.lt
    obtain ⟨w4, rfl⟩ : ∃ w4, w4 = w' := ⟨_, rfl⟩
    go_wp2_with fail
    refine (I_IsValidImage _ _ _ _ 0 (w4.heap.size + 1) l _ ((ho2.alloc _).sl (by simp) (Nat.zero_le _) (by omega) hs) (by simp)).mono ?_
    rintro e w' ⟨rfl, hb⟩; have hz := hb.size; (try simp at hz); have c0 := fun o => hb.cell (p := ⟨w.heap.size, o, none⟩) (by first | omega | (simp <;> omega)); have f0 := fun o => hb.frozen (p := ⟨w.heap.size, o, none⟩) (by first | omega | (simp <;> omega)); have z0 : w.heap.size < w'.heap.size := (by omega)
    have hB5 : Below w.heap.size w w' := (by repeat (first | (with_reducible exact Below.refl _ _) | (with_reducible assumption) | refine Below.alloc ?_ (by first | omega | (simp <;> omega)) _ | refine Below.setCell ?_ (by first | omega | (simp <;> omega)) _ | refine below_drewN ?_ _ | refine Below.drew ?_ | refine Below.step (by assumption) ?_ (by first | omega | (simp <;> omega))))
    have d0 := fun o => hb.cell (p := ⟨w4.heap.size, o, none⟩) (by simp)
    have y0 : w4.heap.size < w'.heap.size := by omega
    have ho5 := (ho2.alloc (.cells #[.int .i64 W, .int .i64 H, sl g2 l.length] 43)).below hb (by simp; omega)
    go_wp2_with fail
    go_region_held3 (fun w' => w'.cell? ⟨w.heap.size, 0, none⟩ = some (.int .i64 W) ∧ w'.cell? ⟨w.heap.size, 1, none⟩ = some (.int .i64 H) ∧ w'.cell? ⟨w.heap.size, 2, none⟩ = some (.slice A l.length c) ∧
      w'.cell? ⟨w4.heap.size, 0, none⟩ = some (.int .i64 W) ∧ w'.cell? ⟨w4.heap.size, 1, none⟩ = some (.int .i64 H) ∧ w'.cell? ⟨w4.heap.size, 2, none⟩ = some (sl g2 l.length)) (first | go_keep | (dsimp only; refine ⟨?_, ?_, ?_, ?_, ?_, ?_⟩ <;> go_simp))
      (first | (go_at_call 29; refine (L_toImage _ _ _ _ _ _ l _ (HH.out.below hB5 (Nat.le_refl _)).drew hB5.size hs).mono ?_; rintro e w' ⟨g3, rfl, ho3, hg3, hb⟩; have hz := hb.size; (try simp at hz); have c0 := fun o => hb.cell (p := ⟨w.heap.size, o, none⟩) (by first | omega | (simp <;> omega)); have f0 := fun o => hb.frozen (p := ⟨w.heap.size, o, none⟩) (by first | omega | (simp <;> omega)); have z0 : w.heap.size < w'.heap.size := (by omega); have hb3 := hb; have d3 := fun o => hb.cell (p := ⟨w4.heap.size, o, none⟩) y0) | (go_at_call 31; refine (L_eqImage _ _ _ _ _ _ 0 (g2 + 1) 0 _ l _ ((ho5.drew.below hb3 (by simp; omega)).sl (by simp) (Nat.zero_le _) (Nat.lt_succ_self _) hs) (ho3.sl (by simp) (Nat.zero_le _) ho3.lt hs) (by simp at hg3; omega) (Nat.le_refl _)).mono ?_; rintro e w' ⟨rfl, hb⟩; have hz := hb.size; (try simp at hz); have c0 := fun o => hb.cell (p := ⟨w.heap.size, o, none⟩) (by first | omega | (simp <;> omega)); have f0 := fun o => hb.frozen (p := ⟨w.heap.size, o, none⟩) (by first | omega | (simp <;> omega)); have z0 : w.heap.size < w'.heap.size := (by omega); have d4 := fun o => hb.cell (p := ⟨w4.heap.size, o, none⟩) (by simp; omega)))
    go_wp2
    go_ret
    exact ⟨rfl, (by repeat (first | (with_reducible exact Below.refl _ _) | (with_reducible assumption) | refine Below.alloc ?_ (by first | omega | (simp <;> omega)) _ | refine Below.setCell ?_ (by first | omega | (simp <;> omega)) _ | refine below_drewN ?_ _ | refine Below.drew ?_ | refine Below.step (by assumption) ?_ (by first | omega | (simp <;> omega))))⟩
theorem FnExactIsValidImage_walk : LawWalk 7 [40] := by
  intro H enc W base args ds ps hA hval hlt
  obtain ⟨v0, rfl, h0⟩ := args1 hA hval
  obtain ⟨a, b, A, c, l, rfl, hr⟩ := h0.image
  exact L_ExIsValidImage a b A c l W hr
end Go.Proofs.Ytckhdnigbddnkaa
