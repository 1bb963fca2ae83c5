/- MADE BY PROGRAM (genapply.py). The law FnExactApply. -/
import Derived.Test.YtaeajeclbcodeaaTrans
import Derived.Test.YtaeajeclbcodeaaLaw
import Derived.Test.YtaeajeclbcodeaaOpen
import Derived.OpenShut
import Derived.Deep.RegionHeld3
import Derived.Deep.DeepCutAuto
namespace Go.Proofs.Ytaeajeclbcodeaa
open Go.ChangeShapes Go.WideShapes Go.ChangeAt Go.RowKit
set_option linter.unusedVariables false
set_option maxRecDepth 100000
set_option maxHeartbeats 16000000 in
theorem L_toIntA9 (m0 m1 m2 m3 m4 m5 m6 m7 m8 : Int) (w : World) :
    Calls Try.prog 27 #[.agg #[.int .i64 m0, .int .i64 m1, .int .i64 m2, .int .i64 m3, .int .i64 m4, .int .i64 m5, .int .i64 m6, .int .i64 m7, .int .i64 m8]] w fun e w' => e = .returned (.agg #[.int .i64 m0, .int .i64 m1, .int .i64 m2, .int .i64 m3, .int .i64 m4, .int .i64 m5, .int .i64 m6, .int .i64 m7, .int .i64 m8]) ∧ Below w.heap.size w w' := by
  have HX : Hid (Own (((w.alloc (.cells #[.int .i64 m0, .int .i64 m1, .int .i64 m2, .int .i64 m3, .int .i64 m4, .int .i64 m5, .int .i64 m6, .int .i64 m7, .int .i64 m8] 22)).alloc (.cells #[.int .i64 0, .int .i64 0, .int .i64 0, .int .i64 0, .int .i64 0, .int .i64 0, .int .i64 0, .int .i64 0, .int .i64 0] 22)).alloc (.cells #[.int .i64 0, .int .i64 0, .int .i64 0, .int .i64 0, .int .i64 0, .int .i64 0, .int .i64 0, .int .i64 0, .int .i64 0] 22)) w.heap.size 22 [.int .i64 m0, .int .i64 m1, .int .i64 m2, .int .i64 m3, .int .i64 m4, .int .i64 m5, .int .i64 m6, .int .i64 m7, .int .i64 m8]) := Lib.hid (Own.alloc (Own.alloc (Own.new _ _ #[_, _, _, _, _, _, _, _, _]) _) _)
  have HL : Hid (Own (((w.alloc (.cells #[.int .i64 m0, .int .i64 m1, .int .i64 m2, .int .i64 m3, .int .i64 m4, .int .i64 m5, .int .i64 m6, .int .i64 m7, .int .i64 m8] 22)).alloc (.cells #[.int .i64 0, .int .i64 0, .int .i64 0, .int .i64 0, .int .i64 0, .int .i64 0, .int .i64 0, .int .i64 0, .int .i64 0] 22)).alloc (.cells #[.int .i64 0, .int .i64 0, .int .i64 0, .int .i64 0, .int .i64 0, .int .i64 0, .int .i64 0, .int .i64 0, .int .i64 0] 22)) (w.heap.size + 1) 22 [.int .i64 0, .int .i64 0, .int .i64 0, .int .i64 0, .int .i64 0, .int .i64 0, .int .i64 0, .int .i64 0, .int .i64 0]) := Lib.hid (Own.alloc (Own.at_new (cs := #[_, _, _, _, _, _, _, _, _]) (by simp)) _)
  have HO : Hid (Own (((w.alloc (.cells #[.int .i64 m0, .int .i64 m1, .int .i64 m2, .int .i64 m3, .int .i64 m4, .int .i64 m5, .int .i64 m6, .int .i64 m7, .int .i64 m8] 22)).alloc (.cells #[.int .i64 0, .int .i64 0, .int .i64 0, .int .i64 0, .int .i64 0, .int .i64 0, .int .i64 0, .int .i64 0, .int .i64 0] 22)).alloc (.cells #[.int .i64 0, .int .i64 0, .int .i64 0, .int .i64 0, .int .i64 0, .int .i64 0, .int .i64 0, .int .i64 0, .int .i64 0] 22)) (w.heap.size + 1 + 1) 22 [.int .i64 0, .int .i64 0, .int .i64 0, .int .i64 0, .int .i64 0, .int .i64 0, .int .i64 0, .int .i64 0, .int .i64 0]) := Lib.hid (Own.at_new (cs := #[_, _, _, _, _, _, _, _, _]) (by simp))
  have HB : Hid (Below w.heap.size w (((w.alloc (.cells #[.int .i64 m0, .int .i64 m1, .int .i64 m2, .int .i64 m3, .int .i64 m4, .int .i64 m5, .int .i64 m6, .int .i64 m7, .int .i64 m8] 22)).alloc (.cells #[.int .i64 0, .int .i64 0, .int .i64 0, .int .i64 0, .int .i64 0, .int .i64 0, .int .i64 0, .int .i64 0, .int .i64 0] 22)).alloc (.cells #[.int .i64 0, .int .i64 0, .int .i64 0, .int .i64 0, .int .i64 0, .int .i64 0, .int .i64 0, .int .i64 0, .int .i64 0] 22))) := Lib.hid (by repeat (first | (with_reducible exact Below.refl _ _) | (with_reducible assumption) | ((with_reducible refine Below.alloc ?_ ?_ _); rotate_left; (first | omega | (simp <;> omega))) | ((with_reducible refine Below.setCell ?_ ?_ _); rotate_left; (first | omega | (simp <;> omega))) | (with_reducible refine below_drewN ?_ _) | (with_reducible refine Below.drew ?_) | ((with_reducible refine Below.step (by assumption) ?_ ?_); rotate_left; (first | omega | (simp <;> omega)))))
  go_enter Try.func27, Try.ntmps27
  go_wp2_with fail
  go_loopw [4] (fun p wr => ∃ k : Nat, k ≤ 9 ∧ p = .int .i64 k ∧ Own wr w.heap.size 22 [.int .i64 m0, .int .i64 m1, .int .i64 m2, .int .i64 m3, .int .i64 m4, .int .i64 m5, .int .i64 m6, .int .i64 m7, .int .i64 m8] ∧ Own wr (w.heap.size + 1) 22 [.int .i64 0, .int .i64 0, .int .i64 0, .int .i64 0, .int .i64 0, .int .i64 0, .int .i64 0, .int .i64 0, .int .i64 0] ∧ Own wr (w.heap.size + 1 + 1) 22 ([.int .i64 m0, .int .i64 m1, .int .i64 m2, .int .i64 m3, .int .i64 m4, .int .i64 m5, .int .i64 m6, .int .i64 m7, .int .i64 m8].take k ++ List.replicate (9 - k) (.int .i64 0)) ∧ Below w.heap.size w wr) (fun p _ => 9 - (intOf p).toNat)
  case atStart => exact ⟨0, by omega, rfl, HX.out, HL.out, HO.out, HB.out⟩
  case round =>
    obtain ⟨k, hk, rfl, h1, h2, h3, hb⟩ := hrel
    have HX1 := Lib.hid h1
    have HL1 := Lib.hid h2
    have HB1 := Lib.hid hb
    clear h1 h2 hb HX HL HO HB
    by_cases h9 : k = 9
    · subst h9
      have ho : Own wr (w.heap.size + 1 + 1) 22 [.int .i64 m0, .int .i64 m1, .int .i64 m2, .int .i64 m3, .int .i64 m4, .int .i64 m5, .int .i64 m6, .int .i64 m7, .int .i64 m8] := h3
      clear h3
      have q0 := ho.cell 0
      have q1 := ho.cell 1
      have q2 := ho.cell 2
      have q3 := ho.cell 3
      have q4 := ho.cell 4
      have q5 := ho.cell 5
      have q6 := ho.cell 6
      have q7 := ho.cell 7
      have q8 := ho.cell 8
      have p0 := HL1.out.cell 0
      have p1 := HL1.out.cell 1
      have p2 := HL1.out.cell 2
      have p3 := HL1.out.cell 3
      have p4 := HL1.out.cell 4
      have p5 := HL1.out.cell 5
      have p6 := HL1.out.cell 6
      have p7 := HL1.out.cell 7
      have p8 := HL1.out.cell 8
      have pf := HL1.out.frozen
      have pl := HL1.out.lt
      simp only [List.getElem?_cons_zero, List.getElem?_cons_succ] at q0 p0 q1 p1 q2 p2 q3 p3 q4 p4 q5 p5 q6 p6 q7 p7 q8 p8
      clear ho
      go_wp2
      exact bodyPost_ret (v := .agg #[.int .i64 m0, .int .i64 m1, .int .i64 m2, .int .i64 m3, .int .i64 m4, .int .i64 m5, .int .i64 m6, .int .i64 m7, .int .i64 m8]) (by simp [results, Try.results27, go_sem, *]) rfl ⟨rfl, (by repeat (first | (with_reducible exact Below.refl _ _) | (with_reducible exact HB1.out) | (with_reducible assumption) | ((with_reducible refine Below.alloc ?_ ?_ _); rotate_left; (first | omega | (simp <;> omega))) | ((with_reducible refine Below.setCell ?_ ?_ _); rotate_left; (first | omega | (simp <;> omega))) | (with_reducible refine below_drewN ?_ _) | (with_reducible refine Below.drew ?_) | ((with_reducible refine Below.step (by assumption) ?_ ?_); rotate_left; (first | omega | (simp <;> omega)))))⟩
    · have hk9 : k < 9 := by omega
      rcases k with _ | _ | _ | _ | _ | _ | _ | _ | _ | k
      · have HO1 : Hid (Own wr (w.heap.size + 1 + 1) 22 [.int .i64 0, .int .i64 0, .int .i64 0, .int .i64 0, .int .i64 0, .int .i64 0, .int .i64 0, .int .i64 0, .int .i64 0]) := Lib.hid h3
        clear h3 h9
        have x0 := HX1.out.cell 0
        have qf := HO1.out.frozen
        have ql := HO1.out.lt
        have qo := HO1.out.cell 0
        simp only [List.getElem?_cons_zero] at x0 qo
        go_wp2_with fail
        go_roundw
        case rel => exact ⟨1, by omega, by go_num, (by repeat (first | (with_reducible exact HX1.out) | ((with_reducible refine Own.far ?_ ?_ _); rotate_left; (first | omega | (simp <;> omega))) | (with_reducible refine Own.alloc ?_ _) | (with_reducible refine Own.drewN ?_ _) | (with_reducible refine Own.drew ?_) | (with_reducible refine Own.step (by assumption) ?_))), (by repeat (first | (with_reducible exact HL1.out) | ((with_reducible refine Own.far ?_ ?_ _); rotate_left; (first | omega | (simp <;> omega))) | (with_reducible refine Own.alloc ?_ _) | (with_reducible refine Own.drewN ?_ _) | (with_reducible refine Own.drew ?_) | (with_reducible refine Own.step (by assumption) ?_))), Own.set_ HO1.out 0 (.int .i64 m0), (by repeat (first | (with_reducible exact Below.refl _ _) | (with_reducible exact HB1.out) | (with_reducible assumption) | ((with_reducible refine Below.alloc ?_ ?_ _); rotate_left; (first | omega | (simp <;> omega))) | ((with_reducible refine Below.setCell ?_ ?_ _); rotate_left; (first | omega | (simp <;> omega))) | (with_reducible refine below_drewN ?_ _) | (with_reducible refine Below.drew ?_) | ((with_reducible refine Below.step (by assumption) ?_ ?_); rotate_left; (first | omega | (simp <;> omega)))))⟩
        case measure => simp [intOf]
      · have HO1 : Hid (Own wr (w.heap.size + 1 + 1) 22 [.int .i64 m0, .int .i64 0, .int .i64 0, .int .i64 0, .int .i64 0, .int .i64 0, .int .i64 0, .int .i64 0, .int .i64 0]) := Lib.hid h3
        clear h3 h9
        have x1 := HX1.out.cell 1
        have qf := HO1.out.frozen
        have ql := HO1.out.lt
        have qo := HO1.out.cell 1
        simp only [List.getElem?_cons_zero, List.getElem?_cons_succ] at x1 qo
        go_wp2_with fail
        go_roundw
        case rel => exact ⟨2, by omega, by go_num, (by repeat (first | (with_reducible exact HX1.out) | ((with_reducible refine Own.far ?_ ?_ _); rotate_left; (first | omega | (simp <;> omega))) | (with_reducible refine Own.alloc ?_ _) | (with_reducible refine Own.drewN ?_ _) | (with_reducible refine Own.drew ?_) | (with_reducible refine Own.step (by assumption) ?_))), (by repeat (first | (with_reducible exact HL1.out) | ((with_reducible refine Own.far ?_ ?_ _); rotate_left; (first | omega | (simp <;> omega))) | (with_reducible refine Own.alloc ?_ _) | (with_reducible refine Own.drewN ?_ _) | (with_reducible refine Own.drew ?_) | (with_reducible refine Own.step (by assumption) ?_))), Own.set_ HO1.out 1 (.int .i64 m1), (by repeat (first | (with_reducible exact Below.refl _ _) | (with_reducible exact HB1.out) | (with_reducible assumption) | ((with_reducible refine Below.alloc ?_ ?_ _); rotate_left; (first | omega | (simp <;> omega))) | ((with_reducible refine Below.setCell ?_ ?_ _); rotate_left; (first | omega | (simp <;> omega))) | (with_reducible refine below_drewN ?_ _) | (with_reducible refine Below.drew ?_) | ((with_reducible refine Below.step (by assumption) ?_ ?_); rotate_left; (first | omega | (simp <;> omega)))))⟩
        case measure => simp [intOf]
      · have HO1 : Hid (Own wr (w.heap.size + 1 + 1) 22 [.int .i64 m0, .int .i64 m1, .int .i64 0, .int .i64 0, .int .i64 0, .int .i64 0, .int .i64 0, .int .i64 0, .int .i64 0]) := Lib.hid h3
        clear h3 h9
        have x2 := HX1.out.cell 2
        have qf := HO1.out.frozen
        have ql := HO1.out.lt
        have qo := HO1.out.cell 2
        simp only [List.getElem?_cons_zero, List.getElem?_cons_succ] at x2 qo
        go_wp2_with fail
        go_roundw
        case rel => exact ⟨3, by omega, by go_num, (by repeat (first | (with_reducible exact HX1.out) | ((with_reducible refine Own.far ?_ ?_ _); rotate_left; (first | omega | (simp <;> omega))) | (with_reducible refine Own.alloc ?_ _) | (with_reducible refine Own.drewN ?_ _) | (with_reducible refine Own.drew ?_) | (with_reducible refine Own.step (by assumption) ?_))), (by repeat (first | (with_reducible exact HL1.out) | ((with_reducible refine Own.far ?_ ?_ _); rotate_left; (first | omega | (simp <;> omega))) | (with_reducible refine Own.alloc ?_ _) | (with_reducible refine Own.drewN ?_ _) | (with_reducible refine Own.drew ?_) | (with_reducible refine Own.step (by assumption) ?_))), Own.set_ HO1.out 2 (.int .i64 m2), (by repeat (first | (with_reducible exact Below.refl _ _) | (with_reducible exact HB1.out) | (with_reducible assumption) | ((with_reducible refine Below.alloc ?_ ?_ _); rotate_left; (first | omega | (simp <;> omega))) | ((with_reducible refine Below.setCell ?_ ?_ _); rotate_left; (first | omega | (simp <;> omega))) | (with_reducible refine below_drewN ?_ _) | (with_reducible refine Below.drew ?_) | ((with_reducible refine Below.step (by assumption) ?_ ?_); rotate_left; (first | omega | (simp <;> omega)))))⟩
        case measure => simp [intOf]
      · have HO1 : Hid (Own wr (w.heap.size + 1 + 1) 22 [.int .i64 m0, .int .i64 m1, .int .i64 m2, .int .i64 0, .int .i64 0, .int .i64 0, .int .i64 0, .int .i64 0, .int .i64 0]) := Lib.hid h3
        clear h3 h9
        have x3 := HX1.out.cell 3
        have qf := HO1.out.frozen
        have ql := HO1.out.lt
        have qo := HO1.out.cell 3
        simp only [List.getElem?_cons_zero, List.getElem?_cons_succ] at x3 qo
        go_wp2_with fail
        go_roundw
        case rel => exact ⟨4, by omega, by go_num, (by repeat (first | (with_reducible exact HX1.out) | ((with_reducible refine Own.far ?_ ?_ _); rotate_left; (first | omega | (simp <;> omega))) | (with_reducible refine Own.alloc ?_ _) | (with_reducible refine Own.drewN ?_ _) | (with_reducible refine Own.drew ?_) | (with_reducible refine Own.step (by assumption) ?_))), (by repeat (first | (with_reducible exact HL1.out) | ((with_reducible refine Own.far ?_ ?_ _); rotate_left; (first | omega | (simp <;> omega))) | (with_reducible refine Own.alloc ?_ _) | (with_reducible refine Own.drewN ?_ _) | (with_reducible refine Own.drew ?_) | (with_reducible refine Own.step (by assumption) ?_))), Own.set_ HO1.out 3 (.int .i64 m3), (by repeat (first | (with_reducible exact Below.refl _ _) | (with_reducible exact HB1.out) | (with_reducible assumption) | ((with_reducible refine Below.alloc ?_ ?_ _); rotate_left; (first | omega | (simp <;> omega))) | ((with_reducible refine Below.setCell ?_ ?_ _); rotate_left; (first | omega | (simp <;> omega))) | (with_reducible refine below_drewN ?_ _) | (with_reducible refine Below.drew ?_) | ((with_reducible refine Below.step (by assumption) ?_ ?_); rotate_left; (first | omega | (simp <;> omega)))))⟩
        case measure => simp [intOf]
      · have HO1 : Hid (Own wr (w.heap.size + 1 + 1) 22 [.int .i64 m0, .int .i64 m1, .int .i64 m2, .int .i64 m3, .int .i64 0, .int .i64 0, .int .i64 0, .int .i64 0, .int .i64 0]) := Lib.hid h3
        clear h3 h9
        have x4 := HX1.out.cell 4
        have qf := HO1.out.frozen
        have ql := HO1.out.lt
        have qo := HO1.out.cell 4
        simp only [List.getElem?_cons_zero, List.getElem?_cons_succ] at x4 qo
        go_wp2_with fail
        go_roundw
        case rel => exact ⟨5, by omega, by go_num, (by repeat (first | (with_reducible exact HX1.out) | ((with_reducible refine Own.far ?_ ?_ _); rotate_left; (first | omega | (simp <;> omega))) | (with_reducible refine Own.alloc ?_ _) | (with_reducible refine Own.drewN ?_ _) | (with_reducible refine Own.drew ?_) | (with_reducible refine Own.step (by assumption) ?_))), (by repeat (first | (with_reducible exact HL1.out) | ((with_reducible refine Own.far ?_ ?_ _); rotate_left; (first | omega | (simp <;> omega))) | (with_reducible refine Own.alloc ?_ _) | (with_reducible refine Own.drewN ?_ _) | (with_reducible refine Own.drew ?_) | (with_reducible refine Own.step (by assumption) ?_))), Own.set_ HO1.out 4 (.int .i64 m4), (by repeat (first | (with_reducible exact Below.refl _ _) | (with_reducible exact HB1.out) | (with_reducible assumption) | ((with_reducible refine Below.alloc ?_ ?_ _); rotate_left; (first | omega | (simp <;> omega))) | ((with_reducible refine Below.setCell ?_ ?_ _); rotate_left; (first | omega | (simp <;> omega))) | (with_reducible refine below_drewN ?_ _) | (with_reducible refine Below.drew ?_) | ((with_reducible refine Below.step (by assumption) ?_ ?_); rotate_left; (first | omega | (simp <;> omega)))))⟩
        case measure => simp [intOf]
      · have HO1 : Hid (Own wr (w.heap.size + 1 + 1) 22 [.int .i64 m0, .int .i64 m1, .int .i64 m2, .int .i64 m3, .int .i64 m4, .int .i64 0, .int .i64 0, .int .i64 0, .int .i64 0]) := Lib.hid h3
        clear h3 h9
        have x5 := HX1.out.cell 5
        have qf := HO1.out.frozen
        have ql := HO1.out.lt
        have qo := HO1.out.cell 5
        simp only [List.getElem?_cons_zero, List.getElem?_cons_succ] at x5 qo
        go_wp2_with fail
        go_roundw
        case rel => exact ⟨6, by omega, by go_num, (by repeat (first | (with_reducible exact HX1.out) | ((with_reducible refine Own.far ?_ ?_ _); rotate_left; (first | omega | (simp <;> omega))) | (with_reducible refine Own.alloc ?_ _) | (with_reducible refine Own.drewN ?_ _) | (with_reducible refine Own.drew ?_) | (with_reducible refine Own.step (by assumption) ?_))), (by repeat (first | (with_reducible exact HL1.out) | ((with_reducible refine Own.far ?_ ?_ _); rotate_left; (first | omega | (simp <;> omega))) | (with_reducible refine Own.alloc ?_ _) | (with_reducible refine Own.drewN ?_ _) | (with_reducible refine Own.drew ?_) | (with_reducible refine Own.step (by assumption) ?_))), Own.set_ HO1.out 5 (.int .i64 m5), (by repeat (first | (with_reducible exact Below.refl _ _) | (with_reducible exact HB1.out) | (with_reducible assumption) | ((with_reducible refine Below.alloc ?_ ?_ _); rotate_left; (first | omega | (simp <;> omega))) | ((with_reducible refine Below.setCell ?_ ?_ _); rotate_left; (first | omega | (simp <;> omega))) | (with_reducible refine below_drewN ?_ _) | (with_reducible refine Below.drew ?_) | ((with_reducible refine Below.step (by assumption) ?_ ?_); rotate_left; (first | omega | (simp <;> omega)))))⟩
        case measure => simp [intOf]
      · have HO1 : Hid (Own wr (w.heap.size + 1 + 1) 22 [.int .i64 m0, .int .i64 m1, .int .i64 m2, .int .i64 m3, .int .i64 m4, .int .i64 m5, .int .i64 0, .int .i64 0, .int .i64 0]) := Lib.hid h3
        clear h3 h9
        have x6 := HX1.out.cell 6
        have qf := HO1.out.frozen
        have ql := HO1.out.lt
        have qo := HO1.out.cell 6
        simp only [List.getElem?_cons_zero, List.getElem?_cons_succ] at x6 qo
        go_wp2_with fail
        go_roundw
        case rel => exact ⟨7, by omega, by go_num, (by repeat (first | (with_reducible exact HX1.out) | ((with_reducible refine Own.far ?_ ?_ _); rotate_left; (first | omega | (simp <;> omega))) | (with_reducible refine Own.alloc ?_ _) | (with_reducible refine Own.drewN ?_ _) | (with_reducible refine Own.drew ?_) | (with_reducible refine Own.step (by assumption) ?_))), (by repeat (first | (with_reducible exact HL1.out) | ((with_reducible refine Own.far ?_ ?_ _); rotate_left; (first | omega | (simp <;> omega))) | (with_reducible refine Own.alloc ?_ _) | (with_reducible refine Own.drewN ?_ _) | (with_reducible refine Own.drew ?_) | (with_reducible refine Own.step (by assumption) ?_))), Own.set_ HO1.out 6 (.int .i64 m6), (by repeat (first | (with_reducible exact Below.refl _ _) | (with_reducible exact HB1.out) | (with_reducible assumption) | ((with_reducible refine Below.alloc ?_ ?_ _); rotate_left; (first | omega | (simp <;> omega))) | ((with_reducible refine Below.setCell ?_ ?_ _); rotate_left; (first | omega | (simp <;> omega))) | (with_reducible refine below_drewN ?_ _) | (with_reducible refine Below.drew ?_) | ((with_reducible refine Below.step (by assumption) ?_ ?_); rotate_left; (first | omega | (simp <;> omega)))))⟩
        case measure => simp [intOf]
      · have HO1 : Hid (Own wr (w.heap.size + 1 + 1) 22 [.int .i64 m0, .int .i64 m1, .int .i64 m2, .int .i64 m3, .int .i64 m4, .int .i64 m5, .int .i64 m6, .int .i64 0, .int .i64 0]) := Lib.hid h3
        clear h3 h9
        have x7 := HX1.out.cell 7
        have qf := HO1.out.frozen
        have ql := HO1.out.lt
        have qo := HO1.out.cell 7
        simp only [List.getElem?_cons_zero, List.getElem?_cons_succ] at x7 qo
        go_wp2_with fail
        go_roundw
        case rel => exact ⟨8, by omega, by go_num, (by repeat (first | (with_reducible exact HX1.out) | ((with_reducible refine Own.far ?_ ?_ _); rotate_left; (first | omega | (simp <;> omega))) | (with_reducible refine Own.alloc ?_ _) | (with_reducible refine Own.drewN ?_ _) | (with_reducible refine Own.drew ?_) | (with_reducible refine Own.step (by assumption) ?_))), (by repeat (first | (with_reducible exact HL1.out) | ((with_reducible refine Own.far ?_ ?_ _); rotate_left; (first | omega | (simp <;> omega))) | (with_reducible refine Own.alloc ?_ _) | (with_reducible refine Own.drewN ?_ _) | (with_reducible refine Own.drew ?_) | (with_reducible refine Own.step (by assumption) ?_))), Own.set_ HO1.out 7 (.int .i64 m7), (by repeat (first | (with_reducible exact Below.refl _ _) | (with_reducible exact HB1.out) | (with_reducible assumption) | ((with_reducible refine Below.alloc ?_ ?_ _); rotate_left; (first | omega | (simp <;> omega))) | ((with_reducible refine Below.setCell ?_ ?_ _); rotate_left; (first | omega | (simp <;> omega))) | (with_reducible refine below_drewN ?_ _) | (with_reducible refine Below.drew ?_) | ((with_reducible refine Below.step (by assumption) ?_ ?_); rotate_left; (first | omega | (simp <;> omega)))))⟩
        case measure => simp [intOf]
      · have HO1 : Hid (Own wr (w.heap.size + 1 + 1) 22 [.int .i64 m0, .int .i64 m1, .int .i64 m2, .int .i64 m3, .int .i64 m4, .int .i64 m5, .int .i64 m6, .int .i64 m7, .int .i64 0]) := Lib.hid h3
        clear h3 h9
        have x8 := HX1.out.cell 8
        have qf := HO1.out.frozen
        have ql := HO1.out.lt
        have qo := HO1.out.cell 8
        simp only [List.getElem?_cons_zero, List.getElem?_cons_succ] at x8 qo
        go_wp2_with fail
        go_roundw
        case rel => exact ⟨9, by omega, by go_num, (by repeat (first | (with_reducible exact HX1.out) | ((with_reducible refine Own.far ?_ ?_ _); rotate_left; (first | omega | (simp <;> omega))) | (with_reducible refine Own.alloc ?_ _) | (with_reducible refine Own.drewN ?_ _) | (with_reducible refine Own.drew ?_) | (with_reducible refine Own.step (by assumption) ?_))), (by repeat (first | (with_reducible exact HL1.out) | ((with_reducible refine Own.far ?_ ?_ _); rotate_left; (first | omega | (simp <;> omega))) | (with_reducible refine Own.alloc ?_ _) | (with_reducible refine Own.drewN ?_ _) | (with_reducible refine Own.drew ?_) | (with_reducible refine Own.step (by assumption) ?_))), Own.set_ HO1.out 8 (.int .i64 m8), (by repeat (first | (with_reducible exact Below.refl _ _) | (with_reducible exact HB1.out) | (with_reducible assumption) | ((with_reducible refine Below.alloc ?_ ?_ _); rotate_left; (first | omega | (simp <;> omega))) | ((with_reducible refine Below.setCell ?_ ?_ _); rotate_left; (first | omega | (simp <;> omega))) | (with_reducible refine below_drewN ?_ _) | (with_reducible refine Below.drew ?_) | ((with_reducible refine Below.step (by assumption) ?_ ?_); rotate_left; (first | omega | (simp <;> omega)))))⟩
        case measure => simp [intOf]
      · omega
set_option maxHeartbeats 8000000 in
theorem L_toTransform (m0 m1 m2 m3 m4 m5 m6 m7 m8 a b c : Int) (w : World) :
    Calls Try.prog 7 #[vTr m0 m1 m2 m3 m4 m5 m6 m7 m8 a b c] w fun e w' => e = .returned (vTr m0 m1 m2 m3 m4 m5 m6 m7 m8 a b c) ∧ Below w.heap.size w w' := by
  go_enter Try.func7, Try.ntmps7
  go_wp2_with fail
  refine (L_toIntA9 m0 m1 m2 m3 m4 m5 m6 m7 m8 _).mono ?_
  rintro e w' ⟨rfl, hb⟩; have hz := hb.size; (try simp at hz); have c0 := fun o => hb.cell (p := ⟨w.heap.size, o, none⟩) (by first | omega | (simp <;> omega)); have f0 := fun o => hb.frozen (p := ⟨w.heap.size, o, none⟩) (by first | omega | (simp <;> omega)); have z0 : w.heap.size < w'.heap.size := (by omega); have c1 := fun o => hb.cell (p := ⟨w.heap.size + 1, o, none⟩) (by first | omega | (simp <;> omega)); have f1 := fun o => hb.frozen (p := ⟨w.heap.size + 1, o, none⟩) (by first | omega | (simp <;> omega)); have z1 : w.heap.size + 1 < w'.heap.size := (by omega); have c2 := fun o => hb.cell (p := ⟨w.heap.size + 1 + 1, o, none⟩) (by first | omega | (simp <;> omega)); have f2 := fun o => hb.frozen (p := ⟨w.heap.size + 1 + 1, o, none⟩) (by first | omega | (simp <;> omega)); have z2 : w.heap.size + 1 + 1 < w'.heap.size := (by omega)
  obtain ⟨w1, rfl⟩ : ∃ w1, w1 = w' := ⟨_, rfl⟩
  go_wp2_with fail
  refine (L_toVec a b c _).mono ?_
  rintro e w2 ⟨rfl, hb2⟩
  have hz2 := hb2.size
  (try simp at hz2)
  have d0 := fun o => hb2.cell (p := ⟨w.heap.size + 1, o, none⟩) (by simp; omega)
  have d1 := fun o => hb2.cell (p := ⟨w.heap.size + 1 + 1, o, none⟩) (by simp; omega)
  have d2 := fun o => hb2.frozen (p := ⟨w.heap.size + 1, o, none⟩) (by simp; omega)
  have d3 := fun o => hb2.frozen (p := ⟨w.heap.size + 1 + 1, o, none⟩) (by simp; omega)
  have l1 : w.heap.size + 1 < w2.heap.size := by omega
  have l2 : w.heap.size + 1 + 1 < w2.heap.size := by omega
  go_wp2
  exact bodyPost_ret (v := vTr m0 m1 m2 m3 m4 m5 m6 m7 m8 a b c) (by simp [results, Try.results7, go_sem, *]) rfl ⟨rfl, (by repeat (first | (with_reducible exact Below.refl _ _) | (with_reducible assumption) | ((with_reducible refine Below.alloc ?_ ?_ _); rotate_left; (first | omega | (simp <;> omega))) | ((with_reducible refine Below.setCell ?_ ?_ _); rotate_left; (first | omega | (simp <;> omega))) | (with_reducible refine below_drewN ?_ _) | (with_reducible refine Below.drew ?_) | ((with_reducible refine Below.step (by assumption) ?_ ?_); rotate_left; (first | omega | (simp <;> omega)))))⟩
theorem Can.array {H : Type} {enc : TypeId × Value → H} {W : World} {t e n : Nat} {cs : List Value} (h : Can enc W t cs) (ht : Try.prog.underlying t = some (.array n e)) : cs.length = Try.prog.cellsOf t ∧ ∀ i, i < n → Can enc W e ((cs.drop (i * Try.prog.cellsOf e)).take (Try.prog.cellsOf e)) := by
  obtain ⟨fuel, x, h⟩ := h
  obtain ⟨xs, m, _, _, hl, hn, hg⟩ := DataW.trod_array ht h
  refine ⟨hl, fun i hi => ?_⟩
  have h1 := hg i hi
  rw [List.getElem?_eq_getElem (by omega)] at h1
  exact ⟨m, _, h1⟩
theorem Arg.vec {H : Type} {enc : TypeId × Value → H} {W : World} {v : Value} (h : Arg enc W 24 v) : ∃ x y z, v = vVec x y z := by
  obtain ⟨cs, rfl, hc⟩ := h.struct Try.underlying24
  have hl := (hc.struct_len Try.underlying24).trans (show Try.prog.cellsOf 24 = 3 by kernel_rfl)
  match cs, hl with
  | [c0, c1, c2], _ =>
    obtain ⟨x0, h0, _⟩ := (hc.fieldAt Try.underlying24 0 3 0 1 rfl T.cellInt).int Try.underlying3
    obtain ⟨x1, h1, _⟩ := (hc.fieldAt Try.underlying24 1 3 1 1 rfl T.cellInt).int Try.underlying3
    obtain ⟨x2, h2, _⟩ := (hc.fieldAt Try.underlying24 2 3 2 1 rfl T.cellInt).int Try.underlying3
    obtain rfl : c0 = _ := List.head_eq_of_cons_eq h0
    obtain rfl : c1 = _ := List.head_eq_of_cons_eq h1
    obtain rfl : c2 = _ := List.head_eq_of_cons_eq h2
    exact ⟨x0, x1, x2, rfl⟩
theorem Arg.transform {H : Type} {enc : TypeId × Value → H} {W : World} {v : Value} (h : Arg enc W 26 v) : ∃ m0 m1 m2 m3 m4 m5 m6 m7 m8 a b c, v = vTr m0 m1 m2 m3 m4 m5 m6 m7 m8 a b c := by
  obtain ⟨cs, rfl, hc⟩ := h.struct Try.underlying26
  have hl := (hc.struct_len Try.underlying26).trans (show Try.prog.cellsOf 26 = 12 by kernel_rfl)
  match cs, hl with
  | [c0, c1, c2, c3, c4, c5, c6, c7, c8, c9, c10, c11], _ =>
    have ha := (hc.fieldAt Try.underlying26 0 22 0 9 rfl (by kernel_rfl)).array Try.underlying22
    have hv := hc.fieldAt Try.underlying26 1 24 9 3 rfl (by kernel_rfl)
    have ha2 := ha.2
    rw [T.cellInt] at ha2
    obtain ⟨y0, g0, _⟩ := (ha2 0 (by omega)).int Try.underlying3
    obtain rfl : c0 = _ := List.head_eq_of_cons_eq g0
    obtain ⟨y1, g1, _⟩ := (ha2 1 (by omega)).int Try.underlying3
    obtain rfl : c1 = _ := List.head_eq_of_cons_eq g1
    obtain ⟨y2, g2, _⟩ := (ha2 2 (by omega)).int Try.underlying3
    obtain rfl : c2 = _ := List.head_eq_of_cons_eq g2
    obtain ⟨y3, g3, _⟩ := (ha2 3 (by omega)).int Try.underlying3
    obtain rfl : c3 = _ := List.head_eq_of_cons_eq g3
    obtain ⟨y4, g4, _⟩ := (ha2 4 (by omega)).int Try.underlying3
    obtain rfl : c4 = _ := List.head_eq_of_cons_eq g4
    obtain ⟨y5, g5, _⟩ := (ha2 5 (by omega)).int Try.underlying3
    obtain rfl : c5 = _ := List.head_eq_of_cons_eq g5
    obtain ⟨y6, g6, _⟩ := (ha2 6 (by omega)).int Try.underlying3
    obtain rfl : c6 = _ := List.head_eq_of_cons_eq g6
    obtain ⟨y7, g7, _⟩ := (ha2 7 (by omega)).int Try.underlying3
    obtain rfl : c7 = _ := List.head_eq_of_cons_eq g7
    obtain ⟨y8, g8, _⟩ := (ha2 8 (by omega)).int Try.underlying3
    obtain rfl : c8 = _ := List.head_eq_of_cons_eq g8
    obtain ⟨y9, g9, _⟩ := (hv.fieldAt Try.underlying24 0 3 0 1 rfl T.cellInt).int Try.underlying3
    obtain rfl : c9 = _ := List.head_eq_of_cons_eq g9
    obtain ⟨y10, g10, _⟩ := (hv.fieldAt Try.underlying24 1 3 1 1 rfl T.cellInt).int Try.underlying3
    obtain rfl : c10 = _ := List.head_eq_of_cons_eq g10
    obtain ⟨y11, g11, _⟩ := (hv.fieldAt Try.underlying24 2 3 2 1 rfl T.cellInt).int Try.underlying3
    obtain rfl : c11 = _ := List.head_eq_of_cons_eq g11
    exact ⟨y0, y1, y2, y3, y4, y5, y6, y7, y8, y9, y10, y11, rfl⟩
theorem applyV_form (m0 m1 m2 m3 m4 m5 m6 m7 m8 a b c x y z : Int) : ∃ p q r, applyV m0 m1 m2 m3 m4 m5 m6 m7 m8 a b c x y z = vVec p q r := by
  unfold applyV addV
  split
  · exact ⟨_, _, _, rfl⟩
  · exact ⟨_, _, _, rfl⟩
set_option maxHeartbeats 16000000 in
theorem L_ExApply (m0 m1 m2 m3 m4 m5 m6 m7 m8 a b c x y z : Int) (w : World) :
    Calls Try.prog 3 #[vTr m0 m1 m2 m3 m4 m5 m6 m7 m8 a b c, vVec x y z] w fun e w' => e = .returned (.bool true) ∧ Below w.heap.size w w' := by
  obtain ⟨p, q, r, hpqr⟩ := applyV_form m0 m1 m2 m3 m4 m5 m6 m7 m8 a b c x y z
  have HS : Hid (∀ wx, Calls Try.prog 6 #[vTr m0 m1 m2 m3 m4 m5 m6 m7 m8 a b c, vVec x y z] wx fun e w' => e = .returned (vVec p q r) ∧ Below wx.heap.size wx w') := fun wx => by
    have := S_Apply m0 m1 m2 m3 m4 m5 m6 m7 m8 a b c x y z wx
    rwa [hpqr] at this
  have HI : Hid (∀ wx, Calls Try.prog 9 #[vTr m0 m1 m2 m3 m4 m5 m6 m7 m8 a b c, vVec x y z] wx fun e w' => e = .returned (vVec p q r) ∧ Below wx.heap.size wx w') := fun wx => by
    have := I_Apply m0 m1 m2 m3 m4 m5 m6 m7 m8 a b c x y z wx
    rwa [hpqr] at this
  clear hpqr
  go_enter Try.func3, Try.ntmps3
  go_upto_region 1 with fail
  go_cut [5] (fun s5 wx => ∃ g' : Nat, s5 = .pointer (some ⟨g', 0, none⟩) ∧ w.heap.size + 1 < g' ∧ Box wx g' [.int .i64 p, .int .i64 q, .int .i64 r] ∧ Box wx w.heap.size [.int .i64 m0, .int .i64 m1, .int .i64 m2, .int .i64 m3, .int .i64 m4, .int .i64 m5, .int .i64 m6, .int .i64 m7, .int .i64 m8, .int .i64 a, .int .i64 b, .int .i64 c] ∧ Box wx (w.heap.size + 1) [.int .i64 x, .int .i64 y, .int .i64 z] ∧ Below w.heap.size w wx)
  case first =>
    go_region_held3 (fun w' => w'.cell? ⟨w.heap.size, 0, none⟩ = some (.int .i64 m0) ∧ w'.cell? ⟨w.heap.size, 1, none⟩ = some (.int .i64 m1) ∧ w'.cell? ⟨w.heap.size, 2, none⟩ = some (.int .i64 m2) ∧ w'.cell? ⟨w.heap.size, 3, none⟩ = some (.int .i64 m3) ∧ w'.cell? ⟨w.heap.size, 4, none⟩ = some (.int .i64 m4) ∧ w'.cell? ⟨w.heap.size, 5, none⟩ = some (.int .i64 m5) ∧ w'.cell? ⟨w.heap.size, 6, none⟩ = some (.int .i64 m6) ∧ w'.cell? ⟨w.heap.size, 7, none⟩ = some (.int .i64 m7) ∧ w'.cell? ⟨w.heap.size, 8, none⟩ = some (.int .i64 m8) ∧ w'.cell? ⟨w.heap.size, 9, none⟩ = some (.int .i64 a) ∧ w'.cell? ⟨w.heap.size, 10, none⟩ = some (.int .i64 b) ∧ w'.cell? ⟨w.heap.size, 11, none⟩ = some (.int .i64 c) ∧ w'.cell? ⟨w.heap.size + 1, 0, none⟩ = some (.int .i64 x) ∧ w'.cell? ⟨w.heap.size + 1, 1, none⟩ = some (.int .i64 y) ∧ w'.cell? ⟨w.heap.size + 1, 2, none⟩ = some (.int .i64 z))
      (first | ((try dsimp only); refine ⟨?_, ?_, ?_, ?_, ?_, ?_, ?_, ?_, ?_, ?_, ?_, ?_, ?_, ?_, ?_⟩ <;> (go_simp; done)) | go_keep)
      (first | (go_at_call 7; (with_reducible refine (L_toTransform m0 m1 m2 m3 m4 m5 m6 m7 m8 a b c _).mono ?_); rintro e w' ⟨rfl, hb⟩; have hz := hb.size; (try simp at hz); have c0 := fun o => hb.cell (p := ⟨w.heap.size, o, none⟩) (by first | omega | (simp <;> omega)); have f0 := fun o => hb.frozen (p := ⟨w.heap.size, o, none⟩) (by first | omega | (simp <;> omega)); have z0 : w.heap.size < w'.heap.size := (by omega); have c1 := fun o => hb.cell (p := ⟨w.heap.size + 1, o, none⟩) (by first | omega | (simp <;> omega)); have f1 := fun o => hb.frozen (p := ⟨w.heap.size + 1, o, none⟩) (by first | omega | (simp <;> omega)); have z1 : w.heap.size + 1 < w'.heap.size := (by omega); have na : ¬ w.heap.size = w'.heap.size := (by omega); have nb : ¬ w.heap.size + 1 = w'.heap.size := (by omega); have nc : ¬ w'.heap.size = w.heap.size := (by omega); have nd : ¬ w'.heap.size = w.heap.size + 1 := (by omega); (try (refine with_box hb (w.heap.size + 1 + 1) ?_ ?_; (first | omega | (simp <;> omega)); intro n0 nf0 nz0)); obtain ⟨wA, rfl⟩ : ∃ wA, wA = w' := ⟨_, rfl⟩) | (go_at_call 8; (with_reducible refine (L_toVec x y z _).mono ?_); rintro e w' ⟨rfl, hb⟩; have hz := hb.size; (try simp at hz); have c0 := fun o => hb.cell (p := ⟨w.heap.size, o, none⟩) (by first | omega | (simp <;> omega)); have f0 := fun o => hb.frozen (p := ⟨w.heap.size, o, none⟩) (by first | omega | (simp <;> omega)); have z0 : w.heap.size < w'.heap.size := (by omega); have c1 := fun o => hb.cell (p := ⟨w.heap.size + 1, o, none⟩) (by first | omega | (simp <;> omega)); have f1 := fun o => hb.frozen (p := ⟨w.heap.size + 1, o, none⟩) (by first | omega | (simp <;> omega)); have z1 : w.heap.size + 1 < w'.heap.size := (by omega); have na : ¬ w.heap.size = w'.heap.size := (by omega); have nb : ¬ w.heap.size + 1 = w'.heap.size := (by omega); have nc : ¬ w'.heap.size = w.heap.size := (by omega); have nd : ¬ w'.heap.size = w.heap.size + 1 := (by omega); (try (refine with_box hb (w.heap.size + 1 + 1) ?_ ?_; (first | omega | (simp <;> omega)); intro n0 nf0 nz0)); (try (refine with_box hb (wA.heap.size) ?_ ?_; (first | omega | (simp <;> omega)); intro n1 nf1 nz1)); obtain ⟨wB, rfl⟩ : ∃ wB, wB = w' := ⟨_, rfl⟩) | (go_at_call 6; (with_reducible refine (HS.out _).mono ?_); rintro e w' ⟨rfl, hb⟩; have hz := hb.size; (try simp at hz); have c0 := fun o => hb.cell (p := ⟨w.heap.size, o, none⟩) (by first | omega | (simp <;> omega)); have f0 := fun o => hb.frozen (p := ⟨w.heap.size, o, none⟩) (by first | omega | (simp <;> omega)); have z0 : w.heap.size < w'.heap.size := (by omega); have c1 := fun o => hb.cell (p := ⟨w.heap.size + 1, o, none⟩) (by first | omega | (simp <;> omega)); have f1 := fun o => hb.frozen (p := ⟨w.heap.size + 1, o, none⟩) (by first | omega | (simp <;> omega)); have z1 : w.heap.size + 1 < w'.heap.size := (by omega); have na : ¬ w.heap.size = w'.heap.size := (by omega); have nb : ¬ w.heap.size + 1 = w'.heap.size := (by omega); have nc : ¬ w'.heap.size = w.heap.size := (by omega); have nd : ¬ w'.heap.size = w.heap.size + 1 := (by omega); (try (refine with_box hb (w.heap.size + 1 + 1) ?_ ?_; (first | omega | (simp <;> omega)); intro n0 nf0 nz0)); (try (refine with_box hb (wA.heap.size) ?_ ?_; (first | omega | (simp <;> omega)); intro n1 nf1 nz1)); (try (refine with_box hb (wB.heap.size) ?_ ?_; (first | omega | (simp <;> omega)); intro n2 nf2 nz2)); obtain ⟨wC, rfl⟩ : ∃ wC, wC = w' := ⟨_, rfl⟩) | fail)
    all_goals
      go_wp2_with fail
      go_meet
      exact ⟨_, rfl, by first | omega | (simp <;> omega), Box.mk3 (by first | omega | (simp <;> omega)) (by go_simp) (by go_simp) (by go_simp), ⟨by first | omega | (simp <;> omega), by go_simp, by go_simp, by go_simp, by go_simp, by go_simp, by go_simp, by go_simp, by go_simp, by go_simp, by go_simp, by go_simp, by go_simp, trivial⟩, Box.mk3 (by first | omega | (simp <;> omega)) (by go_simp) (by go_simp) (by go_simp), (by repeat (first | (with_reducible exact Below.refl _ _) | (with_reducible assumption) | ((with_reducible refine Below.alloc ?_ ?_ _); rotate_left; (first | omega | (simp <;> omega))) | ((with_reducible refine Below.setCell ?_ ?_ _); rotate_left; (first | omega | (simp <;> omega))) | (with_reducible refine below_drewN ?_ _) | (with_reducible refine Below.drew ?_) | ((with_reducible refine Below.step (by assumption) ?_ ?_); rotate_left; (first | omega | (simp <;> omega)))))⟩
  case rest =>
    obtain ⟨g1, rfl, hg1, HP, HA, HC, hB⟩ := hcut
    obtain ⟨hg1', t0, t1, t2, _⟩ := HP
    obtain ⟨hz0, s0, s1, s2, s3, s4, s5, s6, s7, s8, s9, s10, s11, _⟩ := HA
    obtain ⟨hz1, s12, s13, s14, _⟩ := HC
    have HB := Lib.hid hB
    clear hB
    have x0 : ¬ w.heap.size = wc.heap.size := by omega
    have x0' : ¬ wc.heap.size = w.heap.size := by omega
    have x1 : ¬ w.heap.size + 1 = wc.heap.size := by omega
    have x1' : ¬ wc.heap.size = w.heap.size + 1 := by omega
    have x2 : ¬ g1 = wc.heap.size := by omega
    have x2' : ¬ wc.heap.size = g1 := by omega
    go_upto_region 2 with fail
    go_cut [6] (fun s6 wx => ∃ g' : Nat, s6 = .pointer (some ⟨g', 0, none⟩) ∧ Box wx g' [.int .i64 p, .int .i64 q, .int .i64 r] ∧ Box wx g1 [.int .i64 p, .int .i64 q, .int .i64 r] ∧ Below w.heap.size w wx)
    case first =>
      go_region_held3 (fun w' => w'.cell? ⟨w.heap.size, 0, none⟩ = some (.int .i64 m0) ∧ w'.cell? ⟨w.heap.size, 1, none⟩ = some (.int .i64 m1) ∧ w'.cell? ⟨w.heap.size, 2, none⟩ = some (.int .i64 m2) ∧ w'.cell? ⟨w.heap.size, 3, none⟩ = some (.int .i64 m3) ∧ w'.cell? ⟨w.heap.size, 4, none⟩ = some (.int .i64 m4) ∧ w'.cell? ⟨w.heap.size, 5, none⟩ = some (.int .i64 m5) ∧ w'.cell? ⟨w.heap.size, 6, none⟩ = some (.int .i64 m6) ∧ w'.cell? ⟨w.heap.size, 7, none⟩ = some (.int .i64 m7) ∧ w'.cell? ⟨w.heap.size, 8, none⟩ = some (.int .i64 m8) ∧ w'.cell? ⟨w.heap.size, 9, none⟩ = some (.int .i64 a) ∧ w'.cell? ⟨w.heap.size, 10, none⟩ = some (.int .i64 b) ∧ w'.cell? ⟨w.heap.size, 11, none⟩ = some (.int .i64 c) ∧ w'.cell? ⟨w.heap.size + 1, 0, none⟩ = some (.int .i64 x) ∧ w'.cell? ⟨w.heap.size + 1, 1, none⟩ = some (.int .i64 y) ∧ w'.cell? ⟨w.heap.size + 1, 2, none⟩ = some (.int .i64 z) ∧ w'.cell? ⟨g1, 0, none⟩ = some (.int .i64 p) ∧ w'.cell? ⟨g1, 1, none⟩ = some (.int .i64 q) ∧ w'.cell? ⟨g1, 2, none⟩ = some (.int .i64 r))
        (first | ((try dsimp only); refine ⟨?_, ?_, ?_, ?_, ?_, ?_, ?_, ?_, ?_, ?_, ?_, ?_, ?_, ?_, ?_, ?_, ?_, ?_⟩ <;> (go_simp; done)) | go_keep)
        (first | (go_at_call 7; (with_reducible refine (L_toTransform m0 m1 m2 m3 m4 m5 m6 m7 m8 a b c _).mono ?_); rintro e w' ⟨rfl, hb⟩; have hz := hb.size; (try simp at hz); have c0 := fun o => hb.cell (p := ⟨w.heap.size, o, none⟩) (by first | omega | (simp <;> omega)); have f0 := fun o => hb.frozen (p := ⟨w.heap.size, o, none⟩) (by first | omega | (simp <;> omega)); have z0 : w.heap.size < w'.heap.size := (by omega); have c1 := fun o => hb.cell (p := ⟨w.heap.size + 1, o, none⟩) (by first | omega | (simp <;> omega)); have f1 := fun o => hb.frozen (p := ⟨w.heap.size + 1, o, none⟩) (by first | omega | (simp <;> omega)); have z1 : w.heap.size + 1 < w'.heap.size := (by omega); have na : ¬ w.heap.size = w'.heap.size := (by omega); have nb : ¬ w.heap.size + 1 = w'.heap.size := (by omega); have nc : ¬ w'.heap.size = w.heap.size := (by omega); have nd : ¬ w'.heap.size = w.heap.size + 1 := (by omega); have ne : ¬ g1 = w'.heap.size := (by omega); have nf : ¬ w'.heap.size = g1 := (by omega); refine with_box hb g1 ?_ ?_; (first | omega | (simp <;> omega)); intro ng nfg nzg; (try (refine with_box hb (wc.heap.size) ?_ ?_; (first | omega | (simp <;> omega)); intro n0 nf0 nz0)); obtain ⟨wA, rfl⟩ : ∃ wA, wA = w' := ⟨_, rfl⟩) | (go_at_call 8; (with_reducible refine (L_toVec x y z _).mono ?_); rintro e w' ⟨rfl, hb⟩; have hz := hb.size; (try simp at hz); have c0 := fun o => hb.cell (p := ⟨w.heap.size, o, none⟩) (by first | omega | (simp <;> omega)); have f0 := fun o => hb.frozen (p := ⟨w.heap.size, o, none⟩) (by first | omega | (simp <;> omega)); have z0 : w.heap.size < w'.heap.size := (by omega); have c1 := fun o => hb.cell (p := ⟨w.heap.size + 1, o, none⟩) (by first | omega | (simp <;> omega)); have f1 := fun o => hb.frozen (p := ⟨w.heap.size + 1, o, none⟩) (by first | omega | (simp <;> omega)); have z1 : w.heap.size + 1 < w'.heap.size := (by omega); have na : ¬ w.heap.size = w'.heap.size := (by omega); have nb : ¬ w.heap.size + 1 = w'.heap.size := (by omega); have nc : ¬ w'.heap.size = w.heap.size := (by omega); have nd : ¬ w'.heap.size = w.heap.size + 1 := (by omega); have ne : ¬ g1 = w'.heap.size := (by omega); have nf : ¬ w'.heap.size = g1 := (by omega); refine with_box hb g1 ?_ ?_; (first | omega | (simp <;> omega)); intro ng nfg nzg; (try (refine with_box hb (wc.heap.size) ?_ ?_; (first | omega | (simp <;> omega)); intro n0 nf0 nz0)); (try (refine with_box hb (wA.heap.size) ?_ ?_; (first | omega | (simp <;> omega)); intro n1 nf1 nz1)); obtain ⟨wB, rfl⟩ : ∃ wB, wB = w' := ⟨_, rfl⟩) | (go_at_call 9; (with_reducible refine (HI.out _).mono ?_); rintro e w' ⟨rfl, hb⟩; have hz := hb.size; (try simp at hz); have c0 := fun o => hb.cell (p := ⟨w.heap.size, o, none⟩) (by first | omega | (simp <;> omega)); have f0 := fun o => hb.frozen (p := ⟨w.heap.size, o, none⟩) (by first | omega | (simp <;> omega)); have z0 : w.heap.size < w'.heap.size := (by omega); have c1 := fun o => hb.cell (p := ⟨w.heap.size + 1, o, none⟩) (by first | omega | (simp <;> omega)); have f1 := fun o => hb.frozen (p := ⟨w.heap.size + 1, o, none⟩) (by first | omega | (simp <;> omega)); have z1 : w.heap.size + 1 < w'.heap.size := (by omega); have na : ¬ w.heap.size = w'.heap.size := (by omega); have nb : ¬ w.heap.size + 1 = w'.heap.size := (by omega); have nc : ¬ w'.heap.size = w.heap.size := (by omega); have nd : ¬ w'.heap.size = w.heap.size + 1 := (by omega); have ne : ¬ g1 = w'.heap.size := (by omega); have nf : ¬ w'.heap.size = g1 := (by omega); refine with_box hb g1 ?_ ?_; (first | omega | (simp <;> omega)); intro ng nfg nzg; (try (refine with_box hb (wc.heap.size) ?_ ?_; (first | omega | (simp <;> omega)); intro n0 nf0 nz0)); (try (refine with_box hb (wA.heap.size) ?_ ?_; (first | omega | (simp <;> omega)); intro n1 nf1 nz1)); (try (refine with_box hb (wB.heap.size) ?_ ?_; (first | omega | (simp <;> omega)); intro n2 nf2 nz2)); obtain ⟨wC, rfl⟩ : ∃ wC, wC = w' := ⟨_, rfl⟩) | fail)
      all_goals
        go_wp2_with fail
        go_meet
        exact ⟨_, rfl, Box.mk3 (by first | omega | (simp <;> omega)) (by go_simp) (by go_simp) (by go_simp), Box.mk3 (by first | omega | (simp <;> omega)) (by go_simp) (by go_simp) (by go_simp), (by repeat (first | (with_reducible exact Below.refl _ _) | (with_reducible exact HB.out) | (with_reducible assumption) | ((with_reducible refine Below.alloc ?_ ?_ _); rotate_left; (first | omega | (simp <;> omega))) | ((with_reducible refine Below.setCell ?_ ?_ _); rotate_left; (first | omega | (simp <;> omega))) | (with_reducible refine below_drewN ?_ _) | (with_reducible refine Below.drew ?_) | ((with_reducible refine Below.step (by assumption) ?_ ?_); rotate_left; (first | omega | (simp <;> omega)))))⟩
    case rest =>
      obtain ⟨g2, rfl, HQ, HP, hB2⟩ := hcut
      obtain ⟨hg2, r0, r1, r2, _⟩ := HQ
      obtain ⟨hg1', t0, t1, t2, _⟩ := HP
      go_wp2_with fail
      refine (L_eqVec _ _ _ _).mono ?_
      rintro e' w' ⟨rfl, hb⟩
      go_wp2
      go_ret
      exact ⟨rfl, Below.step hb hB2 hB2.size⟩
theorem FnExactApply_walk : LawWalk 3 [26, 24] := by
  intro H enc W base args ds ps hA hval hlt
  obtain ⟨v0, v1, rfl, h0, h1⟩ := args2 hA hval
  obtain ⟨m0, m1, m2, m3, m4, m5, m6, m7, m8, a, b, c, rfl⟩ := h0.transform
  obtain ⟨x, y, z, rfl⟩ := h1.vec
  exact L_ExApply m0 m1 m2 m3 m4 m5 m6 m7 m8 a b c x y z W
end Go.Proofs.Ytaeajeclbcodeaa
