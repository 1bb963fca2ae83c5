/- MADE BY PROGRAM (gensurfw.py). Surfaces and scenes in memory; IsValidSurface. -/
import Derived.Test.YtjipfgadamokaaaGreatDoorVecW
import Derived.Test.YtjipfgadamokaaaGreatDoorMgF
import Derived.Test.YtjipfgadamokaaaGreatDoorMgA
import Derived.BigQuiet
set_option linter.unusedVariables false
set_option linter.unusedSimpArgs false
namespace Go.Proofs.YtjipfgadamokaaaGreatDoor
open Go.RowKit Go.Lib
set_option maxRecDepth 100000
abbrev vSurf (p q : EPatch) (sh rt : Int) : Value := .agg #[.int .i64 (p 0), .int .i64 (p 1), .int .i64 (p 2), .int .i64 (p 3), .int .i64 (p 4), .int .i64 (p 5), .int .i64 (p 6), .int .i64 (p 7), .int .i64 (p 8), .int .i64 (p 9), .int .i64 (p 10), .int .i64 (p 11), .int .i64 (q 0), .int .i64 (q 1), .int .i64 (q 2), .int .i64 (q 3), .int .i64 (q 4), .int .i64 (q 5), .int .i64 (q 6), .int .i64 (q 7), .int .i64 (q 8), .int .i64 (q 9), .int .i64 (q 10), .int .i64 (q 11), .int .i64 sh, .int .i64 rt]
/-- Element i of a row of surfaces. -/
structure SurfAt (w : World) (b o : Nat) (p q : EPatch) (sh rt : Int) : Prop where
  p0 : w.cell? ⟨b, o, none⟩ = some (.int .i64 (p 0))
  p1 : w.cell? ⟨b, o + 1, none⟩ = some (.int .i64 (p 1))
  p2 : w.cell? ⟨b, o + 2, none⟩ = some (.int .i64 (p 2))
  p3 : w.cell? ⟨b, o + 3, none⟩ = some (.int .i64 (p 3))
  p4 : w.cell? ⟨b, o + 4, none⟩ = some (.int .i64 (p 4))
  p5 : w.cell? ⟨b, o + 5, none⟩ = some (.int .i64 (p 5))
  p6 : w.cell? ⟨b, o + 6, none⟩ = some (.int .i64 (p 6))
  p7 : w.cell? ⟨b, o + 7, none⟩ = some (.int .i64 (p 7))
  p8 : w.cell? ⟨b, o + 8, none⟩ = some (.int .i64 (p 8))
  p9 : w.cell? ⟨b, o + 9, none⟩ = some (.int .i64 (p 9))
  p10 : w.cell? ⟨b, o + 10, none⟩ = some (.int .i64 (p 10))
  p11 : w.cell? ⟨b, o + 11, none⟩ = some (.int .i64 (p 11))
  q0 : w.cell? ⟨b, o + 12, none⟩ = some (.int .i64 (q 0))
  q1 : w.cell? ⟨b, o + 13, none⟩ = some (.int .i64 (q 1))
  q2 : w.cell? ⟨b, o + 14, none⟩ = some (.int .i64 (q 2))
  q3 : w.cell? ⟨b, o + 15, none⟩ = some (.int .i64 (q 3))
  q4 : w.cell? ⟨b, o + 16, none⟩ = some (.int .i64 (q 4))
  q5 : w.cell? ⟨b, o + 17, none⟩ = some (.int .i64 (q 5))
  q6 : w.cell? ⟨b, o + 18, none⟩ = some (.int .i64 (q 6))
  q7 : w.cell? ⟨b, o + 19, none⟩ = some (.int .i64 (q 7))
  q8 : w.cell? ⟨b, o + 20, none⟩ = some (.int .i64 (q 8))
  q9 : w.cell? ⟨b, o + 21, none⟩ = some (.int .i64 (q 9))
  q10 : w.cell? ⟨b, o + 22, none⟩ = some (.int .i64 (q 10))
  q11 : w.cell? ⟨b, o + 23, none⟩ = some (.int .i64 (q 11))
  s : w.cell? ⟨b, o + 24, none⟩ = some (.int .i64 sh)
  r : w.cell? ⟨b, o + 25, none⟩ = some (.int .i64 rt)
theorem SurfAt.below {w w' : World} {B b o : Nat} {p q : EPatch} {sh rt : Int} (h : SurfAt w b o p q sh rt) (hb : Below B w w') (hB : b < B) : SurfAt w' b o p q sh rt :=
  ⟨(hb.cell (p := ⟨b, _, none⟩) hB).trans h.p0, (hb.cell (p := ⟨b, _, none⟩) hB).trans h.p1, (hb.cell (p := ⟨b, _, none⟩) hB).trans h.p2, (hb.cell (p := ⟨b, _, none⟩) hB).trans h.p3, (hb.cell (p := ⟨b, _, none⟩) hB).trans h.p4, (hb.cell (p := ⟨b, _, none⟩) hB).trans h.p5, (hb.cell (p := ⟨b, _, none⟩) hB).trans h.p6, (hb.cell (p := ⟨b, _, none⟩) hB).trans h.p7, (hb.cell (p := ⟨b, _, none⟩) hB).trans h.p8, (hb.cell (p := ⟨b, _, none⟩) hB).trans h.p9, (hb.cell (p := ⟨b, _, none⟩) hB).trans h.p10, (hb.cell (p := ⟨b, _, none⟩) hB).trans h.p11, (hb.cell (p := ⟨b, _, none⟩) hB).trans h.q0, (hb.cell (p := ⟨b, _, none⟩) hB).trans h.q1, (hb.cell (p := ⟨b, _, none⟩) hB).trans h.q2, (hb.cell (p := ⟨b, _, none⟩) hB).trans h.q3, (hb.cell (p := ⟨b, _, none⟩) hB).trans h.q4, (hb.cell (p := ⟨b, _, none⟩) hB).trans h.q5, (hb.cell (p := ⟨b, _, none⟩) hB).trans h.q6, (hb.cell (p := ⟨b, _, none⟩) hB).trans h.q7, (hb.cell (p := ⟨b, _, none⟩) hB).trans h.q8, (hb.cell (p := ⟨b, _, none⟩) hB).trans h.q9, (hb.cell (p := ⟨b, _, none⟩) hB).trans h.q10, (hb.cell (p := ⟨b, _, none⟩) hB).trans h.q11, (hb.cell (p := ⟨b, _, none⟩) hB).trans h.s, (hb.cell (p := ⟨b, _, none⟩) hB).trans h.r⟩
abbrev cSurf (p q : EPatch) (sh rt : Int) : List Value := [.int .i64 (p 0), .int .i64 (p 1), .int .i64 (p 2), .int .i64 (p 3), .int .i64 (p 4), .int .i64 (p 5), .int .i64 (p 6), .int .i64 (p 7), .int .i64 (p 8), .int .i64 (p 9), .int .i64 (p 10), .int .i64 (p 11), .int .i64 (q 0), .int .i64 (q 1), .int .i64 (q 2), .int .i64 (q 3), .int .i64 (q 4), .int .i64 (q 5), .int .i64 (q 6), .int .i64 (q 7), .int .i64 (q 8), .int .i64 (q 9), .int .i64 (q 10), .int .i64 (q 11), .int .i64 sh, .int .i64 rt]
theorem SurfAt.cells {w : World} {b o : Nat} {p q : EPatch} {sh rt : Int} (h : SurfAt w b o p q sh rt) : ∀ j v, (cSurf p q sh rt)[j]? = some v → w.cell? ⟨b, o + j, none⟩ = some v := by
  intro j v hv
  match j, hv with
  | 0, hv => injection hv with hv; rw [← hv]; exact h.p0
  | 1, hv => injection hv with hv; rw [← hv]; exact h.p1
  | 2, hv => injection hv with hv; rw [← hv]; exact h.p2
  | 3, hv => injection hv with hv; rw [← hv]; exact h.p3
  | 4, hv => injection hv with hv; rw [← hv]; exact h.p4
  | 5, hv => injection hv with hv; rw [← hv]; exact h.p5
  | 6, hv => injection hv with hv; rw [← hv]; exact h.p6
  | 7, hv => injection hv with hv; rw [← hv]; exact h.p7
  | 8, hv => injection hv with hv; rw [← hv]; exact h.p8
  | 9, hv => injection hv with hv; rw [← hv]; exact h.p9
  | 10, hv => injection hv with hv; rw [← hv]; exact h.p10
  | 11, hv => injection hv with hv; rw [← hv]; exact h.p11
  | 12, hv => injection hv with hv; rw [← hv]; exact h.q0
  | 13, hv => injection hv with hv; rw [← hv]; exact h.q1
  | 14, hv => injection hv with hv; rw [← hv]; exact h.q2
  | 15, hv => injection hv with hv; rw [← hv]; exact h.q3
  | 16, hv => injection hv with hv; rw [← hv]; exact h.q4
  | 17, hv => injection hv with hv; rw [← hv]; exact h.q5
  | 18, hv => injection hv with hv; rw [← hv]; exact h.q6
  | 19, hv => injection hv with hv; rw [← hv]; exact h.q7
  | 20, hv => injection hv with hv; rw [← hv]; exact h.q8
  | 21, hv => injection hv with hv; rw [← hv]; exact h.q9
  | 22, hv => injection hv with hv; rw [← hv]; exact h.q10
  | 23, hv => injection hv with hv; rw [← hv]; exact h.q11
  | 24, hv => injection hv with hv; rw [← hv]; exact h.s
  | 25, hv => injection hv with hv; rw [← hv]; exact h.r
  | j + 26, hv => simp at hv
def SurfsIn (w : World) (A : Option Addr) (c : Nat) (l : List ESurf) : Prop := l.length ≤ c ∧ c ≤ maxLen ∧ ∀ (i : Nat) (hi : i < l.length), ∃ b o, A = some ⟨b, o, none⟩ ∧ b < w.heap.size ∧ SurfAt w b (o + i * 26) l[i].1 l[i].2.1 l[i].2.2.1 l[i].2.2.2
theorem SurfsIn.step {w w' : World} {A : Option Addr} {c : Nat} {l : List ESurf} (hb : Below w.heap.size w w') (h : SurfsIn w A c l) : SurfsIn w' A c l := by
  refine ⟨h.1, h.2.1, fun i hi => ?_⟩
  obtain ⟨b, o, h1, h2, h3⟩ := h.2.2 i hi
  have hz := hb.size
  exact ⟨b, o, h1, by omega, h3.below hb h2⟩
def ProgsIn (w : World) (A : Option Addr) (c : Nat) (l : List EProg) : Prop := l.length ≤ c ∧ c ≤ maxLen ∧ ∀ (i : Nat) (hi : i < l.length), ∃ b o A1 c1 A2 c2, A = some ⟨b, o, none⟩ ∧ b < w.heap.size ∧ ProgIn w A1 c1 A2 c2 l[i] ∧ l[i].1.length ≤ 1048576 ∧ l[i].2.length ≤ 1048576 ∧
  w.cell? ⟨b, o + i * 2, none⟩ = some (.slice A1 l[i].1.length c1) ∧ w.cell? ⟨b, o + i * 2 + 1, none⟩ = some (.slice A2 l[i].2.length c2)
theorem ProgsIn.step {w w' : World} {A : Option Addr} {c : Nat} {l : List EProg} (hb : Below w.heap.size w w') (h : ProgsIn w A c l) : ProgsIn w' A c l := by
  refine ⟨h.1, h.2.1, fun i hi => ?_⟩
  obtain ⟨b, o, A1, c1, A2, c2, h1, h2, h3, h4, h5, h6, h7⟩ := h.2.2 i hi
  have hz := hb.size
  exact ⟨b, o, A1, c1, A2, c2, h1, by omega, h3.step hb, h4, h5, (hb.cell (p := ⟨b, _, none⟩) h2).trans h6, (hb.cell (p := ⟨b, _, none⟩) h2).trans h7⟩
/-- A scene's value. -/
abbrev vScene (s : EScene) (T : Option Addr) (tc : Nat) (P : Option Addr) (pc : Nat) (Q : Option Addr) (qc : Nat) : Value := .agg #[.int .i64 s.a, .int .i64 s.b, .int .i64 s.c, .int .i64 s.d, .bool s.e, .int .i64 s.f, .int .i64 s.g, .int .i64 s.log, .slice T s.tex.length tc, .slice P s.ps.length pc, .slice Q s.ss.length qc, .int .i64 s.side]
abbrev cScene (s : EScene) (T : Option Addr) (tc : Nat) (P : Option Addr) (pc : Nat) (Q : Option Addr) (qc : Nat) : List Value := [.int .i64 s.a, .int .i64 s.b, .int .i64 s.c, .int .i64 s.d, .bool s.e, .int .i64 s.f, .int .i64 s.g, .int .i64 s.log, .slice T s.tex.length tc, .slice P s.ps.length pc, .slice Q s.ss.length qc, .int .i64 s.side]
structure SceneIn (w : World) (s : EScene) (T : Option Addr) (tc : Nat) (P : Option Addr) (pc : Nat) (Q : Option Addr) (qc : Nat) : Prop where
  tex : RS w 1 T s.tex.length tc (ints s.tex)
  ps : ProgsIn w P pc s.ps
  ss : SurfsIn w Q qc s.ss
theorem SceneIn.step {w w' : World} {s : EScene} {T P Q : Option Addr} {tc pc qc : Nat} (hb : Below w.heap.size w w') (h : SceneIn w s T tc P pc Q qc) : SceneIn w' s T tc P pc Q qc := ⟨RS.step hb h.tex, h.ps.step hb, h.ss.step hb⟩
theorem T.infoSurf : (Tryz.prog.info? 79).map (·.size) = some 26 := by kernel_rfl
theorem alloc_surf (wx : World) : (Instr.alloc 79 true (.tuple #[])).run Tryz.prog wx = .ok (.pointer (some ⟨wx.heap.size, 0, none⟩)) (wx.alloc (.cells (Array.replicate 26 (.int .i64 0)) 79)) := by kernel_rfl
/-- A surface of a row is copied to a box. -/
theorem surf_box {w : World} {b o : Nat} {p q : EPatch} {sh rt : Int} (h : SurfAt w b o p q sh rt) : ∃ (w1 w2 : World) (V : Value), V = vSurf p q sh rt ∧ (Instr.loadAt 79 (.pointer (some ⟨b, o, none⟩))).run Tryz.prog w = .ok V w ∧ (Instr.alloc 79 true (.tuple #[])).run Tryz.prog w = .ok (.pointer (some ⟨w.heap.size, 0, none⟩)) w1 ∧
    (Instr.storeAt 79 (.pointer (some ⟨w.heap.size, 0, none⟩)) V).run Tryz.prog w1 = .ok () w2 ∧ (Instr.loadAt 79 (.pointer (some ⟨w.heap.size, 0, none⟩))).run Tryz.prog w2 = .ok V w2 ∧ w2.heap.size = w.heap.size + 1 ∧ Below w.heap.size w w2 ∧ Own w2 w.heap.size 79 (cSurf p q sh rt) :=
  big_box (Array.replicate 26 (.int .i64 0)) Tryz.underlying79 rfl T.infoSurf alloc_surf (by simp) rfl h.cells
set_option maxHeartbeats 1000000 in
theorem S_l20Rate (r : Int) (w : World) : Calls Tryz.prog 75 #[.int .i64 r] w fun e w' => e = .returned (.bool (rateB r)) ∧ w = w' := by
  go_enter Tryz.func75, Tryz.ntmps75
  go_wp2_with fail
  all_goals
    go_ret
    exact ⟨ret_bool (by (try simp only [beq_iff_eq, beq_eq_false_iff_ne] at *); unfold rateB; first | (simp_all; done) | (rw [Bool.eq_iff_iff]; simp <;> omega)), rfl⟩
set_option maxHeartbeats 1000000 in
theorem I_rateOk (r : Int) (w : World) : Calls Tryz.prog 86 #[.int .i64 r] w fun e w' => e = .returned (.bool (rateB r)) ∧ w = w' := by
  go_enter Tryz.func86, Tryz.ntmps86
  go_wp2_with fail
  all_goals
    go_ret
    exact ⟨ret_bool (by (try simp only [beq_iff_eq, beq_eq_false_iff_ne] at *); unfold rateB; first | (simp_all; done) | (rw [Bool.eq_iff_iff]; simp <;> omega)), rfl⟩
set_option maxHeartbeats 1000000 in
theorem I_sideOk (r : Int) (w : World) : Calls Tryz.prog 52 #[.int .i64 r] w fun e w' => e = .returned (.bool (sideB r)) ∧ w = w' := by
  go_enter Tryz.func52, Tryz.ntmps52
  go_wp2_with fail
  all_goals
    go_ret
    exact ⟨ret_bool (by (try simp only [beq_iff_eq, beq_eq_false_iff_ne] at *); unfold sideB; first | (simp_all; done) | (rw [Bool.eq_iff_iff]; simp <;> omega)), rfl⟩
theorem surfOk_def (n : Int) (p q : EPatch) (sh rt : Int) : surfOk n (p, q, sh, rt) = (validPt p && (validPt q && (decide (0 ≤ sh) && (decide (sh < n) && rateB rt)))) := rfl
set_option maxHeartbeats 16000000 in
theorem S_IsValidSurface (p q : EPatch) (sh rt n : Int) (w : World) :
    Calls Tryz.prog 36 #[vSurf p q sh rt, .int .i64 n] w fun e w' => e = .returned (.bool (surfOk n (p, q, sh, rt))) ∧ Below w.heap.size w w' := by
  have HR : Hid (∀ wx, Calls Tryz.prog 75 #[.int .i64 rt] wx fun e w' => e = .returned (.bool (rateB rt)) ∧ wx = w') := Lib.hid (fun wx => S_l20Rate rt wx)
  rw [surfOk_def]
  have HA := Lib.hid (S_IsValidPatch p)
  have HC := Lib.hid (S_IsValidPatch q)
  cases h1 : validPt p with
  | false =>
    have HP1 : Hid (∀ wx, Calls Tryz.prog 74 #[vPatch p] wx fun e w' => e = .returned (.bool false) ∧ Below wx.heap.size wx w') := Lib.hid (fun wx => by have := HA.out wx; rw [h1] at this; exact this)
    clear HA HC
    go_enter Tryz.func36, Tryz.ntmps36
    go_wp2_with (first | (go_at_call 74; (with_reducible refine (HP1.out _).mono ?_); rintro e w1 ⟨rfl, hb1⟩; have hz1 := hb1.size; (try simp at hz1); have c1 := fun o => hb1.cell (p := ⟨w.heap.size, o, none⟩) (by first | omega | (simp <;> omega)); have HB1 : Hid (Below w.heap.size w w1) := Lib.hid (Below.step hb1 (by repeat (first | (with_reducible exact Below.refl _ _) | (with_reducible assumption) | ((with_reducible refine Below.alloc ?_ ?_ _); rotate_left; (first | omega | (simp <;> omega))) | ((with_reducible refine Below.setCell ?_ ?_ _); rotate_left; (first | omega | (simp <;> omega))) | (with_reducible refine below_drewN ?_ _) | (with_reducible refine Below.drew ?_) | ((with_reducible refine Below.step (by assumption) ?_ ?_); rotate_left; (first | omega | (simp <;> omega))))) (by first | omega | (simp <;> omega))); clear hb1) | fail)
    go_ret
    exact ⟨rfl, HB1.out⟩
  | true =>
    have HP1 : Hid (∀ wx, Calls Tryz.prog 74 #[vPatch p] wx fun e w' => e = .returned (.bool true) ∧ Below wx.heap.size wx w') := Lib.hid (fun wx => by have := HA.out wx; rw [h1] at this; exact this)
    cases h2 : validPt q with
    | false =>
      have HP2 : Hid (∀ wx, Calls Tryz.prog 74 #[vPatch q] wx fun e w' => e = .returned (.bool false) ∧ Below wx.heap.size wx w') := Lib.hid (fun wx => by have := HC.out wx; rw [h2] at this; exact this)
      clear HA HC
      go_enter Tryz.func36, Tryz.ntmps36
      go_wp2_with (first | (go_at_call 74; (with_reducible refine (HP1.out _).mono ?_); rintro e w1 ⟨rfl, hb1⟩; have hz1 := hb1.size; (try simp at hz1); have c1 := fun o => hb1.cell (p := ⟨w.heap.size, o, none⟩) (by first | omega | (simp <;> omega)); have HB1 : Hid (Below w.heap.size w w1) := Lib.hid (Below.step hb1 (by repeat (first | (with_reducible exact Below.refl _ _) | (with_reducible assumption) | ((with_reducible refine Below.alloc ?_ ?_ _); rotate_left; (first | omega | (simp <;> omega))) | ((with_reducible refine Below.setCell ?_ ?_ _); rotate_left; (first | omega | (simp <;> omega))) | (with_reducible refine below_drewN ?_ _) | (with_reducible refine Below.drew ?_) | ((with_reducible refine Below.step (by assumption) ?_ ?_); rotate_left; (first | omega | (simp <;> omega))))) (by first | omega | (simp <;> omega))); clear hb1) | (go_at_call 74; (with_reducible refine (HP2.out _).mono ?_); rintro e w2 ⟨rfl, hb2⟩; have hz2 := hb2.size; (try simp at hz2); have c2 := fun o => hb2.cell (p := ⟨w.heap.size, o, none⟩) (by first | omega | (simp <;> omega)); have HB2 : Hid (Below w.heap.size w w2) := Lib.hid (Below.step hb2 HB1.out (by first | omega | (simp <;> omega))); clear hb2) | fail)
      go_ret
      exact ⟨rfl, HB2.out⟩
    | true =>
      have HP2 : Hid (∀ wx, Calls Tryz.prog 74 #[vPatch q] wx fun e w' => e = .returned (.bool true) ∧ Below wx.heap.size wx w') := Lib.hid (fun wx => by have := HC.out wx; rw [h2] at this; exact this)
      clear HA HC
      by_cases h3 : 0 ≤ sh
      · have e3 : decide (0 ≤ sh) = true := decide_eq_true h3
        by_cases h4 : sh < n
        · have e4 : decide (sh < n) = true := decide_eq_true h4
          rw [e3, e4]
          go_enter Tryz.func36, Tryz.ntmps36
          go_wp2_with (first | (go_at_call 74; (with_reducible refine (HP1.out _).mono ?_); rintro e w1 ⟨rfl, hb1⟩; have hz1 := hb1.size; (try simp at hz1); have c1 := fun o => hb1.cell (p := ⟨w.heap.size, o, none⟩) (by first | omega | (simp <;> omega)); have HB1 : Hid (Below w.heap.size w w1) := Lib.hid (Below.step hb1 (by repeat (first | (with_reducible exact Below.refl _ _) | (with_reducible assumption) | ((with_reducible refine Below.alloc ?_ ?_ _); rotate_left; (first | omega | (simp <;> omega))) | ((with_reducible refine Below.setCell ?_ ?_ _); rotate_left; (first | omega | (simp <;> omega))) | (with_reducible refine below_drewN ?_ _) | (with_reducible refine Below.drew ?_) | ((with_reducible refine Below.step (by assumption) ?_ ?_); rotate_left; (first | omega | (simp <;> omega))))) (by first | omega | (simp <;> omega))); clear hb1) | (go_at_call 74; (with_reducible refine (HP2.out _).mono ?_); rintro e w2 ⟨rfl, hb2⟩; have hz2 := hb2.size; (try simp at hz2); have c2 := fun o => hb2.cell (p := ⟨w.heap.size, o, none⟩) (by first | omega | (simp <;> omega)); have HB2 : Hid (Below w.heap.size w w2) := Lib.hid (Below.step hb2 HB1.out (by first | omega | (simp <;> omega))); clear hb2) | (go_at_call 75; refine (HR.out _).mono ?_; rintro e w' ⟨rfl, rfl⟩) | fail)
          go_ret
          exact ⟨ret_bool (by simp), HB2.out⟩
        · have e4 : decide (sh < n) = false := decide_eq_false h4
          rw [e3, e4]
          go_enter Tryz.func36, Tryz.ntmps36
          go_wp2_with (first | (go_at_call 74; (with_reducible refine (HP1.out _).mono ?_); rintro e w1 ⟨rfl, hb1⟩; have hz1 := hb1.size; (try simp at hz1); have c1 := fun o => hb1.cell (p := ⟨w.heap.size, o, none⟩) (by first | omega | (simp <;> omega)); have HB1 : Hid (Below w.heap.size w w1) := Lib.hid (Below.step hb1 (by repeat (first | (with_reducible exact Below.refl _ _) | (with_reducible assumption) | ((with_reducible refine Below.alloc ?_ ?_ _); rotate_left; (first | omega | (simp <;> omega))) | ((with_reducible refine Below.setCell ?_ ?_ _); rotate_left; (first | omega | (simp <;> omega))) | (with_reducible refine below_drewN ?_ _) | (with_reducible refine Below.drew ?_) | ((with_reducible refine Below.step (by assumption) ?_ ?_); rotate_left; (first | omega | (simp <;> omega))))) (by first | omega | (simp <;> omega))); clear hb1) | (go_at_call 74; (with_reducible refine (HP2.out _).mono ?_); rintro e w2 ⟨rfl, hb2⟩; have hz2 := hb2.size; (try simp at hz2); have c2 := fun o => hb2.cell (p := ⟨w.heap.size, o, none⟩) (by first | omega | (simp <;> omega)); have HB2 : Hid (Below w.heap.size w w2) := Lib.hid (Below.step hb2 HB1.out (by first | omega | (simp <;> omega))); clear hb2) | fail)
          go_ret
          exact ⟨rfl, HB2.out⟩
      · have e3 : decide (0 ≤ sh) = false := decide_eq_false h3
        rw [e3]
        go_enter Tryz.func36, Tryz.ntmps36
        go_wp2_with (first | (go_at_call 74; (with_reducible refine (HP1.out _).mono ?_); rintro e w1 ⟨rfl, hb1⟩; have hz1 := hb1.size; (try simp at hz1); have c1 := fun o => hb1.cell (p := ⟨w.heap.size, o, none⟩) (by first | omega | (simp <;> omega)); have HB1 : Hid (Below w.heap.size w w1) := Lib.hid (Below.step hb1 (by repeat (first | (with_reducible exact Below.refl _ _) | (with_reducible assumption) | ((with_reducible refine Below.alloc ?_ ?_ _); rotate_left; (first | omega | (simp <;> omega))) | ((with_reducible refine Below.setCell ?_ ?_ _); rotate_left; (first | omega | (simp <;> omega))) | (with_reducible refine below_drewN ?_ _) | (with_reducible refine Below.drew ?_) | ((with_reducible refine Below.step (by assumption) ?_ ?_); rotate_left; (first | omega | (simp <;> omega))))) (by first | omega | (simp <;> omega))); clear hb1) | (go_at_call 74; (with_reducible refine (HP2.out _).mono ?_); rintro e w2 ⟨rfl, hb2⟩; have hz2 := hb2.size; (try simp at hz2); have c2 := fun o => hb2.cell (p := ⟨w.heap.size, o, none⟩) (by first | omega | (simp <;> omega)); have HB2 : Hid (Below w.heap.size w w2) := Lib.hid (Below.step hb2 HB1.out (by first | omega | (simp <;> omega))); clear hb2) | fail)
        go_ret
        exact ⟨rfl, HB2.out⟩
set_option maxHeartbeats 16000000 in
theorem I_IsValidSurface (p q : EPatch) (sh rt n : Int) (w : World) :
    Calls Tryz.prog 54 #[vSurf p q sh rt, .int .i64 n] w fun e w' => e = .returned (.bool (surfOk n (p, q, sh, rt))) ∧ Below w.heap.size w w' := by
  have HR : Hid (∀ wx, Calls Tryz.prog 86 #[.int .i64 rt] wx fun e w' => e = .returned (.bool (rateB rt)) ∧ wx = w') := Lib.hid (fun wx => I_rateOk rt wx)
  rw [surfOk_def]
  have HA := Lib.hid (I_IsValidPatch p)
  have HC := Lib.hid (I_IsValidPatch q)
  cases h1 : validPt p with
  | false =>
    have HP1 : Hid (∀ wx, Calls Tryz.prog 85 #[vPatch p] wx fun e w' => e = .returned (.bool false) ∧ Below wx.heap.size wx w') := Lib.hid (fun wx => by have := HA.out wx; rw [h1] at this; exact this)
    clear HA HC
    go_enter Tryz.func54, Tryz.ntmps54
    go_wp2_with (first | (go_at_call 85; (with_reducible refine (HP1.out _).mono ?_); rintro e w1 ⟨rfl, hb1⟩; have hz1 := hb1.size; (try simp at hz1); have c1 := fun o => hb1.cell (p := ⟨w.heap.size, o, none⟩) (by first | omega | (simp <;> omega)); have HB1 : Hid (Below w.heap.size w w1) := Lib.hid (Below.step hb1 (by repeat (first | (with_reducible exact Below.refl _ _) | (with_reducible assumption) | ((with_reducible refine Below.alloc ?_ ?_ _); rotate_left; (first | omega | (simp <;> omega))) | ((with_reducible refine Below.setCell ?_ ?_ _); rotate_left; (first | omega | (simp <;> omega))) | (with_reducible refine below_drewN ?_ _) | (with_reducible refine Below.drew ?_) | ((with_reducible refine Below.step (by assumption) ?_ ?_); rotate_left; (first | omega | (simp <;> omega))))) (by first | omega | (simp <;> omega))); clear hb1) | fail)
    go_ret
    exact ⟨rfl, HB1.out⟩
  | true =>
    have HP1 : Hid (∀ wx, Calls Tryz.prog 85 #[vPatch p] wx fun e w' => e = .returned (.bool true) ∧ Below wx.heap.size wx w') := Lib.hid (fun wx => by have := HA.out wx; rw [h1] at this; exact this)
    cases h2 : validPt q with
    | false =>
      have HP2 : Hid (∀ wx, Calls Tryz.prog 85 #[vPatch q] wx fun e w' => e = .returned (.bool false) ∧ Below wx.heap.size wx w') := Lib.hid (fun wx => by have := HC.out wx; rw [h2] at this; exact this)
      clear HA HC
      go_enter Tryz.func54, Tryz.ntmps54
      go_wp2_with (first | (go_at_call 85; (with_reducible refine (HP1.out _).mono ?_); rintro e w1 ⟨rfl, hb1⟩; have hz1 := hb1.size; (try simp at hz1); have c1 := fun o => hb1.cell (p := ⟨w.heap.size, o, none⟩) (by first | omega | (simp <;> omega)); have HB1 : Hid (Below w.heap.size w w1) := Lib.hid (Below.step hb1 (by repeat (first | (with_reducible exact Below.refl _ _) | (with_reducible assumption) | ((with_reducible refine Below.alloc ?_ ?_ _); rotate_left; (first | omega | (simp <;> omega))) | ((with_reducible refine Below.setCell ?_ ?_ _); rotate_left; (first | omega | (simp <;> omega))) | (with_reducible refine below_drewN ?_ _) | (with_reducible refine Below.drew ?_) | ((with_reducible refine Below.step (by assumption) ?_ ?_); rotate_left; (first | omega | (simp <;> omega))))) (by first | omega | (simp <;> omega))); clear hb1) | (go_at_call 85; (with_reducible refine (HP2.out _).mono ?_); rintro e w2 ⟨rfl, hb2⟩; have hz2 := hb2.size; (try simp at hz2); have c2 := fun o => hb2.cell (p := ⟨w.heap.size, o, none⟩) (by first | omega | (simp <;> omega)); have HB2 : Hid (Below w.heap.size w w2) := Lib.hid (Below.step hb2 HB1.out (by first | omega | (simp <;> omega))); clear hb2) | fail)
      go_ret
      exact ⟨rfl, HB2.out⟩
    | true =>
      have HP2 : Hid (∀ wx, Calls Tryz.prog 85 #[vPatch q] wx fun e w' => e = .returned (.bool true) ∧ Below wx.heap.size wx w') := Lib.hid (fun wx => by have := HC.out wx; rw [h2] at this; exact this)
      clear HA HC
      by_cases h3 : 0 ≤ sh
      · have e3 : decide (0 ≤ sh) = true := decide_eq_true h3
        by_cases h4 : sh < n
        · have e4 : decide (sh < n) = true := decide_eq_true h4
          rw [e3, e4]
          go_enter Tryz.func54, Tryz.ntmps54
          go_wp2_with (first | (go_at_call 85; (with_reducible refine (HP1.out _).mono ?_); rintro e w1 ⟨rfl, hb1⟩; have hz1 := hb1.size; (try simp at hz1); have c1 := fun o => hb1.cell (p := ⟨w.heap.size, o, none⟩) (by first | omega | (simp <;> omega)); have HB1 : Hid (Below w.heap.size w w1) := Lib.hid (Below.step hb1 (by repeat (first | (with_reducible exact Below.refl _ _) | (with_reducible assumption) | ((with_reducible refine Below.alloc ?_ ?_ _); rotate_left; (first | omega | (simp <;> omega))) | ((with_reducible refine Below.setCell ?_ ?_ _); rotate_left; (first | omega | (simp <;> omega))) | (with_reducible refine below_drewN ?_ _) | (with_reducible refine Below.drew ?_) | ((with_reducible refine Below.step (by assumption) ?_ ?_); rotate_left; (first | omega | (simp <;> omega))))) (by first | omega | (simp <;> omega))); clear hb1) | (go_at_call 85; (with_reducible refine (HP2.out _).mono ?_); rintro e w2 ⟨rfl, hb2⟩; have hz2 := hb2.size; (try simp at hz2); have c2 := fun o => hb2.cell (p := ⟨w.heap.size, o, none⟩) (by first | omega | (simp <;> omega)); have HB2 : Hid (Below w.heap.size w w2) := Lib.hid (Below.step hb2 HB1.out (by first | omega | (simp <;> omega))); clear hb2) | (go_at_call 86; refine (HR.out _).mono ?_; rintro e w' ⟨rfl, rfl⟩) | fail)
          go_ret
          exact ⟨ret_bool (by simp), HB2.out⟩
        · have e4 : decide (sh < n) = false := decide_eq_false h4
          rw [e3, e4]
          go_enter Tryz.func54, Tryz.ntmps54
          go_wp2_with (first | (go_at_call 85; (with_reducible refine (HP1.out _).mono ?_); rintro e w1 ⟨rfl, hb1⟩; have hz1 := hb1.size; (try simp at hz1); have c1 := fun o => hb1.cell (p := ⟨w.heap.size, o, none⟩) (by first | omega | (simp <;> omega)); have HB1 : Hid (Below w.heap.size w w1) := Lib.hid (Below.step hb1 (by repeat (first | (with_reducible exact Below.refl _ _) | (with_reducible assumption) | ((with_reducible refine Below.alloc ?_ ?_ _); rotate_left; (first | omega | (simp <;> omega))) | ((with_reducible refine Below.setCell ?_ ?_ _); rotate_left; (first | omega | (simp <;> omega))) | (with_reducible refine below_drewN ?_ _) | (with_reducible refine Below.drew ?_) | ((with_reducible refine Below.step (by assumption) ?_ ?_); rotate_left; (first | omega | (simp <;> omega))))) (by first | omega | (simp <;> omega))); clear hb1) | (go_at_call 85; (with_reducible refine (HP2.out _).mono ?_); rintro e w2 ⟨rfl, hb2⟩; have hz2 := hb2.size; (try simp at hz2); have c2 := fun o => hb2.cell (p := ⟨w.heap.size, o, none⟩) (by first | omega | (simp <;> omega)); have HB2 : Hid (Below w.heap.size w w2) := Lib.hid (Below.step hb2 HB1.out (by first | omega | (simp <;> omega))); clear hb2) | fail)
          go_ret
          exact ⟨rfl, HB2.out⟩
      · have e3 : decide (0 ≤ sh) = false := decide_eq_false h3
        rw [e3]
        go_enter Tryz.func54, Tryz.ntmps54
        go_wp2_with (first | (go_at_call 85; (with_reducible refine (HP1.out _).mono ?_); rintro e w1 ⟨rfl, hb1⟩; have hz1 := hb1.size; (try simp at hz1); have c1 := fun o => hb1.cell (p := ⟨w.heap.size, o, none⟩) (by first | omega | (simp <;> omega)); have HB1 : Hid (Below w.heap.size w w1) := Lib.hid (Below.step hb1 (by repeat (first | (with_reducible exact Below.refl _ _) | (with_reducible assumption) | ((with_reducible refine Below.alloc ?_ ?_ _); rotate_left; (first | omega | (simp <;> omega))) | ((with_reducible refine Below.setCell ?_ ?_ _); rotate_left; (first | omega | (simp <;> omega))) | (with_reducible refine below_drewN ?_ _) | (with_reducible refine Below.drew ?_) | ((with_reducible refine Below.step (by assumption) ?_ ?_); rotate_left; (first | omega | (simp <;> omega))))) (by first | omega | (simp <;> omega))); clear hb1) | (go_at_call 85; (with_reducible refine (HP2.out _).mono ?_); rintro e w2 ⟨rfl, hb2⟩; have hz2 := hb2.size; (try simp at hz2); have c2 := fun o => hb2.cell (p := ⟨w.heap.size, o, none⟩) (by first | omega | (simp <;> omega)); have HB2 : Hid (Below w.heap.size w w2) := Lib.hid (Below.step hb2 HB1.out (by first | omega | (simp <;> omega))); clear hb2) | fail)
        go_ret
        exact ⟨rfl, HB2.out⟩
end Go.Proofs.YtjipfgadamokaaaGreatDoor
