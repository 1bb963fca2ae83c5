/- MADE BY PROGRAM (genscl.py). Opening a scene. -/
import Derived.Test.YtjipfgadamokaaaGreatDoorSceneL
import Derived.Test.YtjipfgadamokaaaGreatDoorMgA
set_option linter.unusedVariables false
set_option linter.unusedSimpArgs false
namespace Go.Proofs.YtjipfgadamokaaaGreatDoor
open Go.RowKit Go.Lib
set_option maxRecDepth 100000

theorem RowL.of {α : Type} {E : Elem α} {sz : Nat} {P : World → List Value → α → Prop} {w : World} {v : Value} {l : List α} (h : RowOf sz P w v l) (hsz : sz = E.sz) (hP : ∀ ys x, P w ys x → E.P 0 w ys x) : RowL E 0 w v l := by
  subst hsz
  obtain ⟨A, c, cs, rfl, hr, hc⟩ := h
  exact ⟨A, c, cs, rfl, hr, fun _ _ => Nat.zero_le _, fun i hi => hP _ _ (hc i hi)⟩
theorem NodeAt.low {w : World} {ys : List Value} {x : ENode} (h : NodeAt w ys x) : nodeE.P 0 w ys x := by
  obtain ⟨v, rfl, hl, A, c, rfl, hr⟩ := h
  exact ⟨A, c, rfl, hl, hr, fun _ _ => Nat.zero_le _⟩
theorem AssignAt.low {w : World} {ys : List Value} {x : EAssign} (h : AssignAt w ys x) : assE.P 0 w ys x := h
theorem ProgAt.low {w : World} {ys : List Value} {x : EProg} (h : ProgAt w ys x) : progE.P 0 w ys x := by
  obtain ⟨u, v, rfl, h1, h2⟩ := h
  exact ⟨u, v, rfl, RowL.of h1 rfl (fun _ _ => NodeAt.low), RowL.of h2 rfl (fun _ _ => AssignAt.low)⟩
theorem ints_of {n : Nat} {cs : List Value} (hl : cs.length = n) (h : ∀ j, j < n → ∃ z, cs[j]? = some (Value.int .i64 z)) : ∃ p : Nat → Int, cs = (List.range n).map fun j => Value.int .i64 (p j) := by
  classical
  refine ⟨fun j => if hj : j < n then Classical.choose (h j hj) else 0, ?_⟩
  apply List.ext_getElem?
  intro j
  by_cases hj : j < n
  · rw [Classical.choose_spec (h j hj)]
    simp [hj]
  · rw [List.getElem?_eq_none (by omega), List.getElem?_eq_none (by simp; omega)]
theorem Can.array {H : Type} {enc : TypeId × Value → H} {W : World} {t e n : Nat} {cs : List Value} (h : Can enc W t cs) (ht : Tryz.prog.underlying t = some (.array n e)) : cs.length = Tryz.prog.cellsOf t ∧ ∀ i, i < n → Can enc W e ((cs.drop (i * Tryz.prog.cellsOf e)).take (Tryz.prog.cellsOf e)) := by
  obtain ⟨fuel, x, h⟩ := h
  obtain ⟨xs, m, _, _, hl, hn, hg⟩ := DataW.trod_array ht h
  refine ⟨hl, fun i hi => ?_⟩
  have h1 := hg i hi
  rw [List.getElem?_eq_getElem (by omega)] at h1
  exact ⟨m, _, h1⟩
section
variable {H : Type} {enc : TypeId × Value → H} {W : World}
theorem Can.vec3 {cs : List Value} (h : Can enc W 95 cs) : ∀ j, j < 3 → ∃ z, cs[j]? = some (Value.int .i64 z) := by
  have hl := (h.struct_len Tryz.underlying95).trans (show Tryz.prog.cellsOf 95 = 3 by kernel_rfl)
  match cs, hl with
  | [y0, y1, y2], _ =>
    obtain ⟨x0, q0, _⟩ := (h.fieldAt Tryz.underlying95 0 3 0 1 rfl T.cellInt).int Tryz.underlying3
    obtain ⟨x1, q1, _⟩ := (h.fieldAt Tryz.underlying95 1 3 1 1 rfl T.cellInt).int Tryz.underlying3
    obtain ⟨x2, q2, _⟩ := (h.fieldAt Tryz.underlying95 2 3 2 1 rfl T.cellInt).int Tryz.underlying3
    obtain rfl : y0 = _ := List.head_eq_of_cons_eq q0
    obtain rfl : y1 = _ := List.head_eq_of_cons_eq q1
    obtain rfl : y2 = _ := List.head_eq_of_cons_eq q2
    intro j hj
    match j, hj with
    | 0, _ => exact ⟨x0, rfl⟩
    | 1, _ => exact ⟨x1, rfl⟩
    | 2, _ => exact ⟨x2, rfl⟩
theorem Can.patch {cs : List Value} (h : Can enc W 98 cs) : ∃ p : EPatch, cs = c12 p := by
  have hl := (h.struct_len Tryz.underlying98).trans (show Tryz.prog.cellsOf 98 = 12 by kernel_rfl)
  refine ints_of hl fun j hj => ?_
  have ha := (h.fieldAt Tryz.underlying98 0 96 0 12 rfl (by kernel_rfl)).array Tryz.underlying96
  have hv := ha.2 (j / 3) (by omega)
  rw [show Tryz.prog.cellsOf 95 = 3 by kernel_rfl] at hv
  obtain ⟨z, hz⟩ := hv.vec3 (j % 3) (by omega)
  refine ⟨z, ?_⟩
  rw [List.getElem?_take_of_lt (by omega), List.getElem?_drop, List.getElem?_take_of_lt (by omega), List.getElem?_drop] at hz
  rw [← hz]; congr 1; omega
theorem Can.surface {cs : List Value} (h : Can enc W 100 cs) : ∃ x : ESurf, surfE.P 0 W cs x := by
  have hl := (h.struct_len Tryz.underlying100).trans (show Tryz.prog.cellsOf 100 = 26 by kernel_rfl)
  obtain ⟨p, hp⟩ := (h.fieldAt Tryz.underlying100 0 98 0 12 rfl (by kernel_rfl)).patch
  obtain ⟨q, hq⟩ := (h.fieldAt Tryz.underlying100 1 98 12 12 rfl (by kernel_rfl)).patch
  obtain ⟨a, h1, _⟩ := (h.fieldAt Tryz.underlying100 2 3 24 1 rfl T.cellInt).int Tryz.underlying3
  obtain ⟨b, h2, _⟩ := (h.fieldAt Tryz.underlying100 3 3 25 1 rfl T.cellInt).int Tryz.underlying3
  refine ⟨(p, q, a, b), ?_⟩
  show cs = c12 p ++ (c12 q ++ [.int .i64 a, .int .i64 b])
  have e : cs = cs.take 12 ++ ((cs.drop 12).take 12 ++ ((cs.drop 24).take 1 ++ (cs.drop 25).take 1)) := by
    apply List.ext_getElem?
    intro j
    simp only [List.getElem?_append, List.length_take, List.length_drop, List.getElem?_take, List.getElem?_drop, hl]
    repeat' split
    all_goals first | rfl | omega | (congr 1; omega) | (rw [List.getElem?_eq_none (by omega)])
  rw [e, show cs.take 12 = c12 p from hp, hq, h1, h2]
  rfl
theorem Arg.scene {v : Value} (h : Arg enc W 30 v) : ∃ (s : EScene) (T : Option Addr) (tc : Nat) (P : Option Addr) (pc : Nat) (Q : Option Addr) (qc : Nat), v = .agg ⟨cS s T tc P pc Q qc⟩ ∧ SceneL 0 W s T tc P pc Q qc := by
  obtain ⟨cs, rfl, hc⟩ := h.struct Tryz.underlying30
  have hl := (hc.struct_len Tryz.underlying30).trans (show Tryz.prog.cellsOf 30 = 12 by kernel_rfl)
  match cs, hl with
  | [y0, y1, y2, y3, y4, y5, y6, y7, y8, y9, y10, y11], _ =>
    have hcam := hc.fieldAt Tryz.underlying30 0 23 0 7 rfl (by kernel_rfl)
    have htx := hc.fieldAt Tryz.underlying30 1 26 7 2 rfl (by kernel_rfl)
    obtain ⟨x0, q0, _⟩ := (hcam.fieldAt Tryz.underlying23 0 3 0 1 rfl T.cellInt).int Tryz.underlying3
    obtain ⟨x1, q1, _⟩ := (hcam.fieldAt Tryz.underlying23 1 3 1 1 rfl T.cellInt).int Tryz.underlying3
    obtain ⟨x2, q2, _⟩ := (hcam.fieldAt Tryz.underlying23 2 3 2 1 rfl T.cellInt).int Tryz.underlying3
    obtain ⟨x3, q3, _⟩ := (hcam.fieldAt Tryz.underlying23 3 3 3 1 rfl T.cellInt).int Tryz.underlying3
    obtain ⟨x4, q4⟩ := (hcam.fieldAt Tryz.underlying23 4 4 4 1 rfl T.cellBool).bool Tryz.underlying4
    obtain ⟨x5, q5, _⟩ := (hcam.fieldAt Tryz.underlying23 5 3 5 1 rfl T.cellInt).int Tryz.underlying3
    obtain ⟨x6, q6, _⟩ := (hcam.fieldAt Tryz.underlying23 6 3 6 1 rfl T.cellInt).int Tryz.underlying3
    obtain ⟨x7, q7, _⟩ := (htx.fieldAt Tryz.underlying26 0 3 0 1 rfl T.cellInt).int Tryz.underlying3
    obtain ⟨v8, l8, q8, A8, c8, rfl, hr8⟩ := (htx.fieldAt Tryz.underlying26 1 24 1 1 rfl (by kernel_rfl)).ints
    obtain ⟨v9, l9, q9, hr9⟩ := (hc.fieldAt Tryz.underlying30 2 27 9 1 rfl (by kernel_rfl)).rowOf (P := ProgAt) Tryz.underlying27 2 (by kernel_rfl) (by omega) (fun ys hy => hy.prog)
    obtain ⟨v10, l10, q10, hr10⟩ := (hc.fieldAt Tryz.underlying30 3 28 10 1 rfl (by kernel_rfl)).rowOf (P := fun w ys x => surfE.P 0 w ys x) Tryz.underlying28 26 (by kernel_rfl) (by omega) (fun ys hy => hy.surface)
    obtain ⟨x11, q11, _⟩ := (hc.fieldAt Tryz.underlying30 4 3 11 1 rfl T.cellInt).int Tryz.underlying3
    have r9 : RowL progE 0 W v9 l9 := RowL.of hr9 rfl (fun _ _ => ProgAt.low)
    have r10 : RowL surfE 0 W v10 l10 := RowL.of hr10 rfl (fun _ _ h => h)
    obtain ⟨A9, c9, rfl, _⟩ := r9.slice
    obtain ⟨A10, c10, rfl, _⟩ := r10.slice
    obtain rfl : y0 = _ := List.head_eq_of_cons_eq q0
    obtain rfl : y1 = _ := List.head_eq_of_cons_eq q1
    obtain rfl : y2 = _ := List.head_eq_of_cons_eq q2
    obtain rfl : y3 = _ := List.head_eq_of_cons_eq q3
    obtain rfl : y4 = _ := List.head_eq_of_cons_eq q4
    obtain rfl : y5 = _ := List.head_eq_of_cons_eq q5
    obtain rfl : y6 = _ := List.head_eq_of_cons_eq q6
    obtain rfl : y7 = _ := List.head_eq_of_cons_eq q7
    obtain rfl : y8 = _ := List.head_eq_of_cons_eq q8
    obtain rfl : y9 = _ := List.head_eq_of_cons_eq q9
    obtain rfl : y10 = _ := List.head_eq_of_cons_eq q10
    obtain rfl : y11 = _ := List.head_eq_of_cons_eq q11
    exact ⟨⟨x0, x1, x2, x3, x4, x5, x6, x7, l8, l9, l10, x11⟩, A8, c8, A9, c9, A10, c10, rfl, ⟨hr8, fun _ _ => Nat.zero_le _, r9, r10⟩⟩
end
end Go.Proofs.YtjipfgadamokaaaGreatDoor
