/- MADE BY PROGRAM (genvecw.py). IsValidVec, IsValidPatch, FormatVec, FormatPatch. -/
import Derived.Test.YtjipfgadamokaaaGreatDoorMgE
import Derived.BigQuiet
import Derived.Deep.QuietTactic
set_option linter.unusedVariables false
set_option linter.unusedSimpArgs false
namespace Go.Proofs.YtjipfgadamokaaaGreatDoor
open Go.RowKit Go.Lib
set_option maxRecDepth 100000
abbrev vPatch (p : EPatch) : Value := .agg #[.int .i64 (p 0), .int .i64 (p 1), .int .i64 (p 2), .int .i64 (p 3), .int .i64 (p 4), .int .i64 (p 5), .int .i64 (p 6), .int .i64 (p 7), .int .i64 (p 8), .int .i64 (p 9), .int .i64 (p 10), .int .i64 (p 11)]
theorem inNum_cl {x : Int} (h : x = cl x) : inNum x := by have := cl_rng x; unfold inNum; omega
theorem validV_num {x y z : Int} (h : validV x y z = true) : ∀ u ∈ [x, y, z], inNum u := by
  unfold validV at h
  simp only [Bool.and_eq_true, decide_eq_true_eq] at h
  intro u hu
  simp only [List.mem_cons, List.not_mem_nil, or_false] at hu
  rcases hu with rfl | rfl | rfl
  · exact inNum_cl h.1
  · exact inNum_cl h.2.1
  · exact inNum_cl h.2.2
def ptAt (p : EPatch) (k : Nat) : Bool := validV (p (3 * k)) (p (3 * k + 1)) (p (3 * k + 2))
theorem validPt_at {p : EPatch} (h : validPt p = true) : validV (p 0) (p 1) (p 2) = true ∧ validV (p 3) (p 4) (p 5) = true ∧ validV (p 6) (p 7) (p 8) = true ∧ validV (p 9) (p 10) (p 11) = true := by
  unfold validPt at h
  simpa only [Bool.and_eq_true] using h
set_option maxHeartbeats 8000000 in
theorem S_IsValidPatch (p : EPatch) (w : World) :
    Calls Tryz.prog 74 #[vPatch p] w fun e w' => e = .returned (.bool (validPt p)) ∧ Below w.heap.size w w' := by
  have HV : Hid (∀ (x y z : Int) (b : Bool), validV x y z = b → ∀ wx, Calls Tryz.prog 106 #[vVec x y z] wx fun e w' => e = .returned (.bool b) ∧ Below wx.heap.size wx w') := Lib.hid (fun x y z b h wx => by subst h; exact S_IsValidVec x y z wx)
  have HP : Hid (validPt p = (validV (p 0) (p 1) (p 2) && (validV (p 3) (p 4) (p 5) && (validV (p 6) (p 7) (p 8) && validV (p 9) (p 10) (p 11))))) := Lib.hid rfl
  have hix0 : ∀ wx : World, (Instr.index 75 (.agg #[.int .i64 (p 0), .int .i64 (p 1), .int .i64 (p 2), .int .i64 (p 3), .int .i64 (p 4), .int .i64 (p 5), .int .i64 (p 6), .int .i64 (p 7), .int .i64 (p 8), .int .i64 (p 9), .int .i64 (p 10), .int .i64 (p 11)]) (.int .i64 0)).run Tryz.prog wx = .ok (.agg #[.int .i64 (p 0), .int .i64 (p 1), .int .i64 (p 2)]) wx := fun wx => by kernel_rfl
  have hix1 : ∀ wx : World, (Instr.index 75 (.agg #[.int .i64 (p 0), .int .i64 (p 1), .int .i64 (p 2), .int .i64 (p 3), .int .i64 (p 4), .int .i64 (p 5), .int .i64 (p 6), .int .i64 (p 7), .int .i64 (p 8), .int .i64 (p 9), .int .i64 (p 10), .int .i64 (p 11)]) (.int .i64 1)).run Tryz.prog wx = .ok (.agg #[.int .i64 (p 3), .int .i64 (p 4), .int .i64 (p 5)]) wx := fun wx => by kernel_rfl
  have hix2 : ∀ wx : World, (Instr.index 75 (.agg #[.int .i64 (p 0), .int .i64 (p 1), .int .i64 (p 2), .int .i64 (p 3), .int .i64 (p 4), .int .i64 (p 5), .int .i64 (p 6), .int .i64 (p 7), .int .i64 (p 8), .int .i64 (p 9), .int .i64 (p 10), .int .i64 (p 11)]) (.int .i64 2)).run Tryz.prog wx = .ok (.agg #[.int .i64 (p 6), .int .i64 (p 7), .int .i64 (p 8)]) wx := fun wx => by kernel_rfl
  have hix3 : ∀ wx : World, (Instr.index 75 (.agg #[.int .i64 (p 0), .int .i64 (p 1), .int .i64 (p 2), .int .i64 (p 3), .int .i64 (p 4), .int .i64 (p 5), .int .i64 (p 6), .int .i64 (p 7), .int .i64 (p 8), .int .i64 (p 9), .int .i64 (p 10), .int .i64 (p 11)]) (.int .i64 3)).run Tryz.prog wx = .ok (.agg #[.int .i64 (p 9), .int .i64 (p 10), .int .i64 (p 11)]) wx := fun wx => by kernel_rfl
  go_enter Tryz.func74, Tryz.ntmps74
  go_wp2_with fail
  go_loopw [4, 7] (fun _ i wr => ∃ k : Nat, k ≤ 4 ∧ i = .int .i64 k ∧ (1 ≤ k → validV (p 0) (p 1) (p 2) = true) ∧ (2 ≤ k → validV (p 3) (p 4) (p 5) = true) ∧ (3 ≤ k → validV (p 6) (p 7) (p 8) = true) ∧ (4 ≤ k → validV (p 9) (p 10) (p 11) = true) ∧ Below w.heap.size w wr) (fun _ i _ => 4 - (RowKit.intOf i).toNat)
  case atStart => exact ⟨0, by omega, rfl, by omega, by omega, by omega, by omega, (by repeat (first | (with_reducible exact Below.refl _ _) | (with_reducible assumption) | ((with_reducible refine Below.alloc ?_ ?_ _); rotate_left; (first | omega | (simp <;> omega))) | ((with_reducible refine Below.setCell ?_ ?_ _); rotate_left; (first | omega | (simp <;> omega))) | (with_reducible refine below_drewN ?_ _) | (with_reducible refine Below.drew ?_) | ((with_reducible refine Below.step (by assumption) ?_ ?_); rotate_left; (first | omega | (simp <;> omega)))))⟩
  case round =>
    obtain ⟨k, hk, rfl, g0, g1, g2, g3, hb⟩ := hrel
    obtain ⟨wo, rfl⟩ : ∃ wo, wo = wr := ⟨_, rfl⟩
    have hz := hb.size
    have HB := Lib.hid hb
    have G0 := Lib.hid g0
    have G1 := Lib.hid g1
    have G2 := Lib.hid g2
    have G3 := Lib.hid g3
    clear hb g0 g1 g2 g3
    rcases (show k = 0 ∨ k = 1 ∨ k = 2 ∨ k = 3 ∨ k = 4 by omega) with rfl | rfl | rfl | rfl | rfl
    · rw [show ((0 : Nat) : Int) = 0 from rfl]
      cases hv : validV (p 0) (p 1) (p 2) with
      | true =>
        go_wp2_with (first | (go_at_call 106; refine (HV.out _ _ _ _ hv _).mono ?_; rintro e w' ⟨rfl, hbx⟩; have hzx := hbx.size; (try simp at hzx); have HBX : Hid (Below w.heap.size w w') := Lib.hid (Below.step hbx (by repeat (first | (with_reducible exact Below.refl _ _) | (with_reducible exact HB.out) | (with_reducible assumption) | ((with_reducible refine Below.alloc ?_ ?_ _); rotate_left; (first | omega | (simp <;> omega))) | ((with_reducible refine Below.setCell ?_ ?_ _); rotate_left; (first | omega | (simp <;> omega))) | (with_reducible refine below_drewN ?_ _) | (with_reducible refine Below.drew ?_) | ((with_reducible refine Below.step (by assumption) ?_ ?_); rotate_left; (first | omega | (simp <;> omega))))) (by first | omega | (simp <;> omega))); clear hbx) | fail)
        go_roundw
        case rel => exact ⟨1, by omega, by go_num, fun _ => by first | trivial | exact hv, by omega, by omega, by omega, HBX.out⟩
        case measure => simp [RowKit.intOf]
      | false =>
        have HF : Hid (validPt p = false) := Lib.hid (by rw [HP.out, hv]; simp)
        go_wp2_with (first | (go_at_call 106; refine (HV.out _ _ _ _ hv _).mono ?_; rintro e w' ⟨rfl, hbx⟩; have hzx := hbx.size; (try simp at hzx); have HBX : Hid (Below w.heap.size w w') := Lib.hid (Below.step hbx (by repeat (first | (with_reducible exact Below.refl _ _) | (with_reducible exact HB.out) | (with_reducible assumption) | ((with_reducible refine Below.alloc ?_ ?_ _); rotate_left; (first | omega | (simp <;> omega))) | ((with_reducible refine Below.setCell ?_ ?_ _); rotate_left; (first | omega | (simp <;> omega))) | (with_reducible refine below_drewN ?_ _) | (with_reducible refine Below.drew ?_) | ((with_reducible refine Below.step (by assumption) ?_ ?_); rotate_left; (first | omega | (simp <;> omega))))) (by first | omega | (simp <;> omega))); clear hbx) | fail)
        go_ret
        exact ⟨ret_bool HF.out.symm, HBX.out⟩
    · rw [show ((1 : Nat) : Int) = 1 from rfl]
      cases hv : validV (p 3) (p 4) (p 5) with
      | true =>
        go_wp2_with (first | (go_at_call 106; refine (HV.out _ _ _ _ hv _).mono ?_; rintro e w' ⟨rfl, hbx⟩; have hzx := hbx.size; (try simp at hzx); have HBX : Hid (Below w.heap.size w w') := Lib.hid (Below.step hbx (by repeat (first | (with_reducible exact Below.refl _ _) | (with_reducible exact HB.out) | (with_reducible assumption) | ((with_reducible refine Below.alloc ?_ ?_ _); rotate_left; (first | omega | (simp <;> omega))) | ((with_reducible refine Below.setCell ?_ ?_ _); rotate_left; (first | omega | (simp <;> omega))) | (with_reducible refine below_drewN ?_ _) | (with_reducible refine Below.drew ?_) | ((with_reducible refine Below.step (by assumption) ?_ ?_); rotate_left; (first | omega | (simp <;> omega))))) (by first | omega | (simp <;> omega))); clear hbx) | fail)
        go_roundw
        case rel => exact ⟨2, by omega, by go_num, fun _ => by first | trivial | exact G0.out (by omega), fun _ => by first | trivial | exact hv, by omega, by omega, HBX.out⟩
        case measure => simp [RowKit.intOf]
      | false =>
        have HF : Hid (validPt p = false) := Lib.hid (by rw [HP.out, hv]; simp)
        go_wp2_with (first | (go_at_call 106; refine (HV.out _ _ _ _ hv _).mono ?_; rintro e w' ⟨rfl, hbx⟩; have hzx := hbx.size; (try simp at hzx); have HBX : Hid (Below w.heap.size w w') := Lib.hid (Below.step hbx (by repeat (first | (with_reducible exact Below.refl _ _) | (with_reducible exact HB.out) | (with_reducible assumption) | ((with_reducible refine Below.alloc ?_ ?_ _); rotate_left; (first | omega | (simp <;> omega))) | ((with_reducible refine Below.setCell ?_ ?_ _); rotate_left; (first | omega | (simp <;> omega))) | (with_reducible refine below_drewN ?_ _) | (with_reducible refine Below.drew ?_) | ((with_reducible refine Below.step (by assumption) ?_ ?_); rotate_left; (first | omega | (simp <;> omega))))) (by first | omega | (simp <;> omega))); clear hbx) | fail)
        go_ret
        exact ⟨ret_bool HF.out.symm, HBX.out⟩
    · rw [show ((2 : Nat) : Int) = 2 from rfl]
      cases hv : validV (p 6) (p 7) (p 8) with
      | true =>
        go_wp2_with (first | (go_at_call 106; refine (HV.out _ _ _ _ hv _).mono ?_; rintro e w' ⟨rfl, hbx⟩; have hzx := hbx.size; (try simp at hzx); have HBX : Hid (Below w.heap.size w w') := Lib.hid (Below.step hbx (by repeat (first | (with_reducible exact Below.refl _ _) | (with_reducible exact HB.out) | (with_reducible assumption) | ((with_reducible refine Below.alloc ?_ ?_ _); rotate_left; (first | omega | (simp <;> omega))) | ((with_reducible refine Below.setCell ?_ ?_ _); rotate_left; (first | omega | (simp <;> omega))) | (with_reducible refine below_drewN ?_ _) | (with_reducible refine Below.drew ?_) | ((with_reducible refine Below.step (by assumption) ?_ ?_); rotate_left; (first | omega | (simp <;> omega))))) (by first | omega | (simp <;> omega))); clear hbx) | fail)
        go_roundw
        case rel => exact ⟨3, by omega, by go_num, fun _ => by first | trivial | exact G0.out (by omega), fun _ => by first | trivial | exact G1.out (by omega), fun _ => by first | trivial | exact hv, by omega, HBX.out⟩
        case measure => simp [RowKit.intOf]
      | false =>
        have HF : Hid (validPt p = false) := Lib.hid (by rw [HP.out, hv]; simp)
        go_wp2_with (first | (go_at_call 106; refine (HV.out _ _ _ _ hv _).mono ?_; rintro e w' ⟨rfl, hbx⟩; have hzx := hbx.size; (try simp at hzx); have HBX : Hid (Below w.heap.size w w') := Lib.hid (Below.step hbx (by repeat (first | (with_reducible exact Below.refl _ _) | (with_reducible exact HB.out) | (with_reducible assumption) | ((with_reducible refine Below.alloc ?_ ?_ _); rotate_left; (first | omega | (simp <;> omega))) | ((with_reducible refine Below.setCell ?_ ?_ _); rotate_left; (first | omega | (simp <;> omega))) | (with_reducible refine below_drewN ?_ _) | (with_reducible refine Below.drew ?_) | ((with_reducible refine Below.step (by assumption) ?_ ?_); rotate_left; (first | omega | (simp <;> omega))))) (by first | omega | (simp <;> omega))); clear hbx) | fail)
        go_ret
        exact ⟨ret_bool HF.out.symm, HBX.out⟩
    · rw [show ((3 : Nat) : Int) = 3 from rfl]
      cases hv : validV (p 9) (p 10) (p 11) with
      | true =>
        go_wp2_with (first | (go_at_call 106; refine (HV.out _ _ _ _ hv _).mono ?_; rintro e w' ⟨rfl, hbx⟩; have hzx := hbx.size; (try simp at hzx); have HBX : Hid (Below w.heap.size w w') := Lib.hid (Below.step hbx (by repeat (first | (with_reducible exact Below.refl _ _) | (with_reducible exact HB.out) | (with_reducible assumption) | ((with_reducible refine Below.alloc ?_ ?_ _); rotate_left; (first | omega | (simp <;> omega))) | ((with_reducible refine Below.setCell ?_ ?_ _); rotate_left; (first | omega | (simp <;> omega))) | (with_reducible refine below_drewN ?_ _) | (with_reducible refine Below.drew ?_) | ((with_reducible refine Below.step (by assumption) ?_ ?_); rotate_left; (first | omega | (simp <;> omega))))) (by first | omega | (simp <;> omega))); clear hbx) | fail)
        go_roundw
        case rel => exact ⟨4, by omega, by go_num, fun _ => by first | trivial | exact G0.out (by omega), fun _ => by first | trivial | exact G1.out (by omega), fun _ => by first | trivial | exact G2.out (by omega), fun _ => by first | trivial | exact hv, HBX.out⟩
        case measure => simp [RowKit.intOf]
      | false =>
        have HF : Hid (validPt p = false) := Lib.hid (by rw [HP.out, hv]; simp)
        go_wp2_with (first | (go_at_call 106; refine (HV.out _ _ _ _ hv _).mono ?_; rintro e w' ⟨rfl, hbx⟩; have hzx := hbx.size; (try simp at hzx); have HBX : Hid (Below w.heap.size w w') := Lib.hid (Below.step hbx (by repeat (first | (with_reducible exact Below.refl _ _) | (with_reducible exact HB.out) | (with_reducible assumption) | ((with_reducible refine Below.alloc ?_ ?_ _); rotate_left; (first | omega | (simp <;> omega))) | ((with_reducible refine Below.setCell ?_ ?_ _); rotate_left; (first | omega | (simp <;> omega))) | (with_reducible refine below_drewN ?_ _) | (with_reducible refine Below.drew ?_) | ((with_reducible refine Below.step (by assumption) ?_ ?_); rotate_left; (first | omega | (simp <;> omega))))) (by first | omega | (simp <;> omega))); clear hbx) | fail)
        go_ret
        exact ⟨ret_bool HF.out.symm, HBX.out⟩
    · have HF : Hid (validPt p = true) := Lib.hid (by rw [HP.out, G0.out (by omega), G1.out (by omega), G2.out (by omega), G3.out (by omega)]; rfl)
      go_wp2_with fail
      go_ret
      exact ⟨ret_bool HF.out.symm, (by repeat (first | (with_reducible exact Below.refl _ _) | (with_reducible exact HB.out) | (with_reducible assumption) | ((with_reducible refine Below.alloc ?_ ?_ _); rotate_left; (first | omega | (simp <;> omega))) | ((with_reducible refine Below.setCell ?_ ?_ _); rotate_left; (first | omega | (simp <;> omega))) | (with_reducible refine below_drewN ?_ _) | (with_reducible refine Below.drew ?_) | ((with_reducible refine Below.step (by assumption) ?_ ?_); rotate_left; (first | omega | (simp <;> omega)))))⟩
set_option maxHeartbeats 4000000 in
theorem S_FormatVec (x y z : Int) (w : World) (hv : validV x y z = true) :
    Calls Tryz.prog 79 #[vVec x y z] w fun e w' => e = .returned (str (vecT x y z)) ∧ Below w.heap.size w w' := by
  have HV : Hid (∀ wx, Calls Tryz.prog 106 #[vVec x y z] wx fun e w' => e = .returned (.bool true) ∧ Below wx.heap.size wx w') := Lib.hid (fun wx => by have := S_IsValidVec x y z wx; rw [hv] at this; exact this)
  have HF : Hid (∀ (wx : World) (A : Option Addr), RS wx 1 A 3 3 (ints [x, y, z]) → Below w.heap.size w wx → Calls Tryz.prog 77 #[.slice A 3 3] wx fun e w' => e = .returned (str (vecT x y z)) ∧ Below wx.heap.size wx w') := Lib.hid (fun wx A h hbx => S_FormatInts (l := [x, y, z]) wx h (validV_num hv) (by simp) (by simp))
  clear hv
  go_enter Tryz.func79, Tryz.ntmps79
  go_wp2_with (first | (go_at_call 106; refine (HV.out _).mono ?_; rintro e w1 ⟨rfl, hb1⟩; have hz1 := hb1.size; (try simp at hz1); have c0 := fun o => hb1.cell (p := ⟨w.heap.size, o, none⟩) (by first | omega | (simp <;> omega)); have HB1 : Hid (Below w.heap.size w w1) := Lib.hid (Below.step hb1 (by repeat (first | (with_reducible exact Below.refl _ _) | (with_reducible assumption) | ((with_reducible refine Below.alloc ?_ ?_ _); rotate_left; (first | omega | (simp <;> omega))) | ((with_reducible refine Below.setCell ?_ ?_ _); rotate_left; (first | omega | (simp <;> omega))) | (with_reducible refine below_drewN ?_ _) | (with_reducible refine Below.drew ?_) | ((with_reducible refine Below.step (by assumption) ?_ ?_); rotate_left; (first | omega | (simp <;> omega))))) (by first | omega | (simp <;> omega))); clear hb1) | fail)
  refine (HF.out _ _ ?_ (by repeat (first | (with_reducible exact Below.refl _ _) | (with_reducible exact HB1.out) | (with_reducible assumption) | ((with_reducible refine Below.alloc ?_ ?_ _); rotate_left; (first | omega | (simp <;> omega))) | ((with_reducible refine Below.setCell ?_ ?_ _); rotate_left; (first | omega | (simp <;> omega))) | (with_reducible refine below_drewN ?_ _) | (with_reducible refine Below.drew ?_) | ((with_reducible refine Below.step (by assumption) ?_ ?_); rotate_left; (first | omega | (simp <;> omega)))))).mono ?_
  · exact Own.rs (n := 3) (size := 1) (by first | exact Own.new _ _ #[_, _, _] | exact Own.at_new (cs := #[_, _, _]) rfl) rfl (by decide)
  rintro e w' ⟨rfl, hb⟩
  have hz := hb.size
  (try simp at hz)
  go_wp2_with fail
  go_ret
  exact ⟨rfl, (by repeat (first | (with_reducible exact Below.refl _ _) | (with_reducible exact HB1.out) | (with_reducible assumption) | ((with_reducible refine Below.alloc ?_ ?_ _); rotate_left; (first | omega | (simp <;> omega))) | ((with_reducible refine Below.setCell ?_ ?_ _); rotate_left; (first | omega | (simp <;> omega))) | (with_reducible refine below_drewN ?_ _) | (with_reducible refine Below.drew ?_) | ((with_reducible refine Below.step (by assumption) ?_ ?_); rotate_left; (first | omega | (simp <;> omega)))))⟩
set_option maxHeartbeats 8000000 in
theorem S_FormatPatch (p : EPatch) (w : World) (hv : validPt p = true) :
    Calls Tryz.prog 43 #[vPatch p] w fun e w' => e = .returned (str (patT p)) ∧ Below w.heap.size w w' := by
  have HV : Hid (∀ wx, Calls Tryz.prog 74 #[vPatch p] wx fun e w' => e = .returned (.bool true) ∧ Below wx.heap.size wx w') := Lib.hid (fun wx => by have := S_IsValidPatch p wx; rw [hv] at this; exact this)
  obtain ⟨v0, v1, v2, v3⟩ := validPt_at hv
  have HF : Hid (∀ (x y z : Int), validV x y z = true → ∀ wx : World, Below w.heap.size w wx → Calls Tryz.prog 79 #[vVec x y z] wx fun e w' => e = .returned (str (vecT x y z)) ∧ Below wx.heap.size wx w') := Lib.hid (fun x y z h wx hbx => S_FormatVec x y z wx h)
  have V0 := Lib.hid v0
  have V1 := Lib.hid v1
  have V2 := Lib.hid v2
  have V3 := Lib.hid v3
  clear hv v0 v1 v2 v3
  have hix0 : ∀ wx : World, (Instr.index 75 (.agg #[.int .i64 (p 0), .int .i64 (p 1), .int .i64 (p 2), .int .i64 (p 3), .int .i64 (p 4), .int .i64 (p 5), .int .i64 (p 6), .int .i64 (p 7), .int .i64 (p 8), .int .i64 (p 9), .int .i64 (p 10), .int .i64 (p 11)]) (.int .i64 0)).run Tryz.prog wx = .ok (.agg #[.int .i64 (p 0), .int .i64 (p 1), .int .i64 (p 2)]) wx := fun wx => by kernel_rfl
  have hix1 : ∀ wx : World, (Instr.index 75 (.agg #[.int .i64 (p 0), .int .i64 (p 1), .int .i64 (p 2), .int .i64 (p 3), .int .i64 (p 4), .int .i64 (p 5), .int .i64 (p 6), .int .i64 (p 7), .int .i64 (p 8), .int .i64 (p 9), .int .i64 (p 10), .int .i64 (p 11)]) (.int .i64 1)).run Tryz.prog wx = .ok (.agg #[.int .i64 (p 3), .int .i64 (p 4), .int .i64 (p 5)]) wx := fun wx => by kernel_rfl
  have hix2 : ∀ wx : World, (Instr.index 75 (.agg #[.int .i64 (p 0), .int .i64 (p 1), .int .i64 (p 2), .int .i64 (p 3), .int .i64 (p 4), .int .i64 (p 5), .int .i64 (p 6), .int .i64 (p 7), .int .i64 (p 8), .int .i64 (p 9), .int .i64 (p 10), .int .i64 (p 11)]) (.int .i64 2)).run Tryz.prog wx = .ok (.agg #[.int .i64 (p 6), .int .i64 (p 7), .int .i64 (p 8)]) wx := fun wx => by kernel_rfl
  have hix3 : ∀ wx : World, (Instr.index 75 (.agg #[.int .i64 (p 0), .int .i64 (p 1), .int .i64 (p 2), .int .i64 (p 3), .int .i64 (p 4), .int .i64 (p 5), .int .i64 (p 6), .int .i64 (p 7), .int .i64 (p 8), .int .i64 (p 9), .int .i64 (p 10), .int .i64 (p 11)]) (.int .i64 3)).run Tryz.prog wx = .ok (.agg #[.int .i64 (p 9), .int .i64 (p 10), .int .i64 (p 11)]) wx := fun wx => by kernel_rfl
  go_enter Tryz.func43, Tryz.ntmps43
  go_wp2_with (first | (go_at_call 74; refine (HV.out _).mono ?_; rintro e w1 ⟨rfl, hb1⟩; have hz1 := hb1.size; (try simp at hz1); have c0 := fun o => hb1.cell (p := ⟨w.heap.size, o, none⟩) (by first | omega | (simp <;> omega)); have lt1 : w.heap.size < w1.heap.size := (by omega); have ne1 : ¬ w.heap.size = w1.heap.size := (by omega); have HB1 : Hid (Below w.heap.size w w1) := Lib.hid (Below.step hb1 (by repeat (first | (with_reducible exact Below.refl _ _) | (with_reducible assumption) | ((with_reducible refine Below.alloc ?_ ?_ _); rotate_left; (first | omega | (simp <;> omega))) | ((with_reducible refine Below.setCell ?_ ?_ _); rotate_left; (first | omega | (simp <;> omega))) | (with_reducible refine below_drewN ?_ _) | (with_reducible refine Below.drew ?_) | ((with_reducible refine Below.step (by assumption) ?_ ?_); rotate_left; (first | omega | (simp <;> omega))))) (by first | omega | (simp <;> omega))); clear hb1) | fail)
  have HG0 : Hid (Grow (w1.alloc (.cells #[] 9)) w.heap.size 9 1 (some ⟨w1.heap.size, 0, none⟩) 0 0 (strs ((patL p).take 0))) := Lib.hid (Grow.lit w1 #[] 0 rfl (by omega) (Nat.zero_le _))
  go_loopw [3, 5, 12] (fun o _ i wr => ∃ (k : Nat) (B : Option Addr) (d : Nat), k ≤ 4 ∧ i = .int .i64 k ∧ o = .slice B k d ∧ Grow wr w.heap.size 9 1 B k d (strs ((patL p).take k)) ∧ Below w.heap.size w wr) (fun _ _ i _ => 4 - (RowKit.intOf i).toNat)
  case atStart => exact ⟨0, _, _, by omega, rfl, rfl, HG0.out, (by repeat (first | (with_reducible exact Below.refl _ _) | (with_reducible exact HB1.out) | (with_reducible assumption) | ((with_reducible refine Below.alloc ?_ ?_ _); rotate_left; (first | omega | (simp <;> omega))) | ((with_reducible refine Below.setCell ?_ ?_ _); rotate_left; (first | omega | (simp <;> omega))) | (with_reducible refine below_drewN ?_ _) | (with_reducible refine Below.drew ?_) | ((with_reducible refine Below.step (by assumption) ?_ ?_); rotate_left; (first | omega | (simp <;> omega)))))⟩
  case round =>
    obtain ⟨k, B, d, hk, rfl, rfl, hg, hb⟩ := hrel
    obtain ⟨wo, rfl⟩ : ∃ wo, wo = wr := ⟨_, rfl⟩
    have HG := Lib.hid hg
    have HB := Lib.hid hb
    have hz := hb.size
    clear hg hb HG0 c0 HB1
    rcases (show k = 0 ∨ k = 1 ∨ k = 2 ∨ k = 3 ∨ k = 4 by omega) with rfl | rfl | rfl | rfl | rfl
    · rw [show ((0 : Nat) : Int) = 0 from rfl]
      have HS : Hid (strs ((patL p).take 1) = strs ((patL p).take 0) ++ strs [vecT (p 0) (p 1) (p 2)]) := Lib.hid rfl
      obtain ⟨y, hy⟩ : ∃ y, vecT (p 0) (p 1) (p 2) = y := ⟨_, rfl⟩
      have HC : Hid (∀ wx : World, Below w.heap.size w wx → Calls Tryz.prog 79 #[vVec (p 0) (p 1) (p 2)] wx fun e w' => e = .returned (str y) ∧ Below wx.heap.size wx w') := Lib.hid (fun wx hbx => by rw [← hy]; exact HF.out _ _ _ V0.out wx hbx)
      rw [hy] at HS
      clear hy
      go_wp2_with fail
      refine (HC.out _ (by repeat (first | (with_reducible exact Below.refl _ _) | (with_reducible exact HB.out) | (with_reducible assumption) | ((with_reducible refine Below.alloc ?_ ?_ _); rotate_left; (first | omega | (simp <;> omega))) | ((with_reducible refine Below.setCell ?_ ?_ _); rotate_left; (first | omega | (simp <;> omega))) | (with_reducible refine below_drewN ?_ _) | (with_reducible refine Below.drew ?_) | ((with_reducible refine Below.step (by assumption) ?_ ?_); rotate_left; (first | omega | (simp <;> omega)))))).mono ?_
      rintro e wA ⟨rfl, hbA⟩
      have bA : Below w.heap.size w wA := Below.step hbA (by repeat (first | (with_reducible exact Below.refl _ _) | (with_reducible exact HB.out) | (with_reducible assumption) | ((with_reducible refine Below.alloc ?_ ?_ _); rotate_left; (first | omega | (simp <;> omega))) | ((with_reducible refine Below.setCell ?_ ?_ _); rotate_left; (first | omega | (simp <;> omega))) | (with_reducible refine below_drewN ?_ _) | (with_reducible refine Below.drew ?_) | ((with_reducible refine Below.step (by assumption) ?_ ?_); rotate_left; (first | omega | (simp <;> omega))))) (by first | omega | (simp <;> omega))
      have zA := hbA.size
      (try simp at zA)
      have HGA : Hid (Grow wA w.heap.size 9 1 B 0 d (strs ((patL p).take 0))) := Lib.hid (Grow.step hbA (by repeat (first | (with_reducible exact HG.out) | (with_reducible refine Grow.alloc ?_ _) | (with_reducible refine Grow.drewN ?_ _) | (with_reducible refine Grow.drew ?_) | ((with_reducible refine Grow.far ?_ ?_ _); rotate_left; (first | omega | (simp <;> omega))) | (with_reducible refine Grow.step (by assumption) ?_))))
      clear hbA
      go_wp2_with (at_builtin; refine wpList_app (by rfl) _ _ 85 (by rfl) (w.heap.size) 9 (.string ByteArray.empty) 1 16 Tryz.underlying85 T.infoString rfl (by decide) (xs := strs ((patL p).take 0)) (by rfl) ?_ (ys := strs [y]) (by rfl) ?_ (strs_one _) ?_ ?_ ?_ ?_; (exact (by repeat (first | (with_reducible exact HGA.out) | (with_reducible refine Grow.alloc ?_ _) | (with_reducible refine Grow.drewN ?_ _) | (with_reducible refine Grow.drew ?_) | ((with_reducible refine Grow.far ?_ ?_ _); rotate_left; (first | omega | (simp <;> omega))) | (with_reducible refine Grow.step (by assumption) ?_)))); (exact (Grow.rs (base := 0) (n := 1) (c := 1) (by repeat (first | (with_reducible refine Grow.drewN ?_ _) | (with_reducible refine Grow.drew ?_) | (refine Grow.lit_at (by simp) (by rfl) (Nat.zero_le _) (by unfold maxLen; omega)))))); (unfold maxLen; omega); (omega); (first | omega | (simp <;> omega)); rintro A' c' w2 gA; have g1 := gA.1; have g2 := gA.2.1; rw [← HS.out] at g1; have HG1 := Lib.hid g1; have HB2 : Hid (Below w.heap.size w w2) := Lib.hid (Below.trans (Below.alloc bA (by omega) _) g2); clear gA g1 g2)
      go_roundw
      case rel => exact ⟨1, _, _, by omega, by go_num, rfl, HG1.out, HB2.out⟩
      case measure => simp [RowKit.intOf]
    · rw [show ((1 : Nat) : Int) = 1 from rfl]
      have HS : Hid (strs ((patL p).take 2) = strs ((patL p).take 1) ++ strs [vecT (p 3) (p 4) (p 5)]) := Lib.hid rfl
      obtain ⟨y, hy⟩ : ∃ y, vecT (p 3) (p 4) (p 5) = y := ⟨_, rfl⟩
      have HC : Hid (∀ wx : World, Below w.heap.size w wx → Calls Tryz.prog 79 #[vVec (p 3) (p 4) (p 5)] wx fun e w' => e = .returned (str y) ∧ Below wx.heap.size wx w') := Lib.hid (fun wx hbx => by rw [← hy]; exact HF.out _ _ _ V1.out wx hbx)
      rw [hy] at HS
      clear hy
      go_wp2_with fail
      refine (HC.out _ (by repeat (first | (with_reducible exact Below.refl _ _) | (with_reducible exact HB.out) | (with_reducible assumption) | ((with_reducible refine Below.alloc ?_ ?_ _); rotate_left; (first | omega | (simp <;> omega))) | ((with_reducible refine Below.setCell ?_ ?_ _); rotate_left; (first | omega | (simp <;> omega))) | (with_reducible refine below_drewN ?_ _) | (with_reducible refine Below.drew ?_) | ((with_reducible refine Below.step (by assumption) ?_ ?_); rotate_left; (first | omega | (simp <;> omega)))))).mono ?_
      rintro e wA ⟨rfl, hbA⟩
      have bA : Below w.heap.size w wA := Below.step hbA (by repeat (first | (with_reducible exact Below.refl _ _) | (with_reducible exact HB.out) | (with_reducible assumption) | ((with_reducible refine Below.alloc ?_ ?_ _); rotate_left; (first | omega | (simp <;> omega))) | ((with_reducible refine Below.setCell ?_ ?_ _); rotate_left; (first | omega | (simp <;> omega))) | (with_reducible refine below_drewN ?_ _) | (with_reducible refine Below.drew ?_) | ((with_reducible refine Below.step (by assumption) ?_ ?_); rotate_left; (first | omega | (simp <;> omega))))) (by first | omega | (simp <;> omega))
      have zA := hbA.size
      (try simp at zA)
      have HGA : Hid (Grow wA w.heap.size 9 1 B 1 d (strs ((patL p).take 1))) := Lib.hid (Grow.step hbA (by repeat (first | (with_reducible exact HG.out) | (with_reducible refine Grow.alloc ?_ _) | (with_reducible refine Grow.drewN ?_ _) | (with_reducible refine Grow.drew ?_) | ((with_reducible refine Grow.far ?_ ?_ _); rotate_left; (first | omega | (simp <;> omega))) | (with_reducible refine Grow.step (by assumption) ?_))))
      clear hbA
      go_wp2_with (at_builtin; refine wpList_app (by rfl) _ _ 85 (by rfl) (w.heap.size) 9 (.string ByteArray.empty) 1 16 Tryz.underlying85 T.infoString rfl (by decide) (xs := strs ((patL p).take 1)) (by rfl) ?_ (ys := strs [y]) (by rfl) ?_ (strs_one _) ?_ ?_ ?_ ?_; (exact (by repeat (first | (with_reducible exact HGA.out) | (with_reducible refine Grow.alloc ?_ _) | (with_reducible refine Grow.drewN ?_ _) | (with_reducible refine Grow.drew ?_) | ((with_reducible refine Grow.far ?_ ?_ _); rotate_left; (first | omega | (simp <;> omega))) | (with_reducible refine Grow.step (by assumption) ?_)))); (exact (Grow.rs (base := 0) (n := 1) (c := 1) (by repeat (first | (with_reducible refine Grow.drewN ?_ _) | (with_reducible refine Grow.drew ?_) | (refine Grow.lit_at (by simp) (by rfl) (Nat.zero_le _) (by unfold maxLen; omega)))))); (unfold maxLen; omega); (omega); (first | omega | (simp <;> omega)); rintro A' c' w2 gA; have g1 := gA.1; have g2 := gA.2.1; rw [← HS.out] at g1; have HG1 := Lib.hid g1; have HB2 : Hid (Below w.heap.size w w2) := Lib.hid (Below.trans (Below.alloc bA (by omega) _) g2); clear gA g1 g2)
      go_roundw
      case rel => exact ⟨2, _, _, by omega, by go_num, rfl, HG1.out, HB2.out⟩
      case measure => simp [RowKit.intOf]
    · rw [show ((2 : Nat) : Int) = 2 from rfl]
      have HS : Hid (strs ((patL p).take 3) = strs ((patL p).take 2) ++ strs [vecT (p 6) (p 7) (p 8)]) := Lib.hid rfl
      obtain ⟨y, hy⟩ : ∃ y, vecT (p 6) (p 7) (p 8) = y := ⟨_, rfl⟩
      have HC : Hid (∀ wx : World, Below w.heap.size w wx → Calls Tryz.prog 79 #[vVec (p 6) (p 7) (p 8)] wx fun e w' => e = .returned (str y) ∧ Below wx.heap.size wx w') := Lib.hid (fun wx hbx => by rw [← hy]; exact HF.out _ _ _ V2.out wx hbx)
      rw [hy] at HS
      clear hy
      go_wp2_with fail
      refine (HC.out _ (by repeat (first | (with_reducible exact Below.refl _ _) | (with_reducible exact HB.out) | (with_reducible assumption) | ((with_reducible refine Below.alloc ?_ ?_ _); rotate_left; (first | omega | (simp <;> omega))) | ((with_reducible refine Below.setCell ?_ ?_ _); rotate_left; (first | omega | (simp <;> omega))) | (with_reducible refine below_drewN ?_ _) | (with_reducible refine Below.drew ?_) | ((with_reducible refine Below.step (by assumption) ?_ ?_); rotate_left; (first | omega | (simp <;> omega)))))).mono ?_
      rintro e wA ⟨rfl, hbA⟩
      have bA : Below w.heap.size w wA := Below.step hbA (by repeat (first | (with_reducible exact Below.refl _ _) | (with_reducible exact HB.out) | (with_reducible assumption) | ((with_reducible refine Below.alloc ?_ ?_ _); rotate_left; (first | omega | (simp <;> omega))) | ((with_reducible refine Below.setCell ?_ ?_ _); rotate_left; (first | omega | (simp <;> omega))) | (with_reducible refine below_drewN ?_ _) | (with_reducible refine Below.drew ?_) | ((with_reducible refine Below.step (by assumption) ?_ ?_); rotate_left; (first | omega | (simp <;> omega))))) (by first | omega | (simp <;> omega))
      have zA := hbA.size
      (try simp at zA)
      have HGA : Hid (Grow wA w.heap.size 9 1 B 2 d (strs ((patL p).take 2))) := Lib.hid (Grow.step hbA (by repeat (first | (with_reducible exact HG.out) | (with_reducible refine Grow.alloc ?_ _) | (with_reducible refine Grow.drewN ?_ _) | (with_reducible refine Grow.drew ?_) | ((with_reducible refine Grow.far ?_ ?_ _); rotate_left; (first | omega | (simp <;> omega))) | (with_reducible refine Grow.step (by assumption) ?_))))
      clear hbA
      go_wp2_with (at_builtin; refine wpList_app (by rfl) _ _ 85 (by rfl) (w.heap.size) 9 (.string ByteArray.empty) 1 16 Tryz.underlying85 T.infoString rfl (by decide) (xs := strs ((patL p).take 2)) (by rfl) ?_ (ys := strs [y]) (by rfl) ?_ (strs_one _) ?_ ?_ ?_ ?_; (exact (by repeat (first | (with_reducible exact HGA.out) | (with_reducible refine Grow.alloc ?_ _) | (with_reducible refine Grow.drewN ?_ _) | (with_reducible refine Grow.drew ?_) | ((with_reducible refine Grow.far ?_ ?_ _); rotate_left; (first | omega | (simp <;> omega))) | (with_reducible refine Grow.step (by assumption) ?_)))); (exact (Grow.rs (base := 0) (n := 1) (c := 1) (by repeat (first | (with_reducible refine Grow.drewN ?_ _) | (with_reducible refine Grow.drew ?_) | (refine Grow.lit_at (by simp) (by rfl) (Nat.zero_le _) (by unfold maxLen; omega)))))); (unfold maxLen; omega); (omega); (first | omega | (simp <;> omega)); rintro A' c' w2 gA; have g1 := gA.1; have g2 := gA.2.1; rw [← HS.out] at g1; have HG1 := Lib.hid g1; have HB2 : Hid (Below w.heap.size w w2) := Lib.hid (Below.trans (Below.alloc bA (by omega) _) g2); clear gA g1 g2)
      go_roundw
      case rel => exact ⟨3, _, _, by omega, by go_num, rfl, HG1.out, HB2.out⟩
      case measure => simp [RowKit.intOf]
    · rw [show ((3 : Nat) : Int) = 3 from rfl]
      have HS : Hid (strs ((patL p).take 4) = strs ((patL p).take 3) ++ strs [vecT (p 9) (p 10) (p 11)]) := Lib.hid rfl
      obtain ⟨y, hy⟩ : ∃ y, vecT (p 9) (p 10) (p 11) = y := ⟨_, rfl⟩
      have HC : Hid (∀ wx : World, Below w.heap.size w wx → Calls Tryz.prog 79 #[vVec (p 9) (p 10) (p 11)] wx fun e w' => e = .returned (str y) ∧ Below wx.heap.size wx w') := Lib.hid (fun wx hbx => by rw [← hy]; exact HF.out _ _ _ V3.out wx hbx)
      rw [hy] at HS
      clear hy
      go_wp2_with fail
      refine (HC.out _ (by repeat (first | (with_reducible exact Below.refl _ _) | (with_reducible exact HB.out) | (with_reducible assumption) | ((with_reducible refine Below.alloc ?_ ?_ _); rotate_left; (first | omega | (simp <;> omega))) | ((with_reducible refine Below.setCell ?_ ?_ _); rotate_left; (first | omega | (simp <;> omega))) | (with_reducible refine below_drewN ?_ _) | (with_reducible refine Below.drew ?_) | ((with_reducible refine Below.step (by assumption) ?_ ?_); rotate_left; (first | omega | (simp <;> omega)))))).mono ?_
      rintro e wA ⟨rfl, hbA⟩
      have bA : Below w.heap.size w wA := Below.step hbA (by repeat (first | (with_reducible exact Below.refl _ _) | (with_reducible exact HB.out) | (with_reducible assumption) | ((with_reducible refine Below.alloc ?_ ?_ _); rotate_left; (first | omega | (simp <;> omega))) | ((with_reducible refine Below.setCell ?_ ?_ _); rotate_left; (first | omega | (simp <;> omega))) | (with_reducible refine below_drewN ?_ _) | (with_reducible refine Below.drew ?_) | ((with_reducible refine Below.step (by assumption) ?_ ?_); rotate_left; (first | omega | (simp <;> omega))))) (by first | omega | (simp <;> omega))
      have zA := hbA.size
      (try simp at zA)
      have HGA : Hid (Grow wA w.heap.size 9 1 B 3 d (strs ((patL p).take 3))) := Lib.hid (Grow.step hbA (by repeat (first | (with_reducible exact HG.out) | (with_reducible refine Grow.alloc ?_ _) | (with_reducible refine Grow.drewN ?_ _) | (with_reducible refine Grow.drew ?_) | ((with_reducible refine Grow.far ?_ ?_ _); rotate_left; (first | omega | (simp <;> omega))) | (with_reducible refine Grow.step (by assumption) ?_))))
      clear hbA
      go_wp2_with (at_builtin; refine wpList_app (by rfl) _ _ 85 (by rfl) (w.heap.size) 9 (.string ByteArray.empty) 1 16 Tryz.underlying85 T.infoString rfl (by decide) (xs := strs ((patL p).take 3)) (by rfl) ?_ (ys := strs [y]) (by rfl) ?_ (strs_one _) ?_ ?_ ?_ ?_; (exact (by repeat (first | (with_reducible exact HGA.out) | (with_reducible refine Grow.alloc ?_ _) | (with_reducible refine Grow.drewN ?_ _) | (with_reducible refine Grow.drew ?_) | ((with_reducible refine Grow.far ?_ ?_ _); rotate_left; (first | omega | (simp <;> omega))) | (with_reducible refine Grow.step (by assumption) ?_)))); (exact (Grow.rs (base := 0) (n := 1) (c := 1) (by repeat (first | (with_reducible refine Grow.drewN ?_ _) | (with_reducible refine Grow.drew ?_) | (refine Grow.lit_at (by simp) (by rfl) (Nat.zero_le _) (by unfold maxLen; omega)))))); (unfold maxLen; omega); (omega); (first | omega | (simp <;> omega)); rintro A' c' w2 gA; have g1 := gA.1; have g2 := gA.2.1; rw [← HS.out] at g1; have HG1 := Lib.hid g1; have HB2 : Hid (Below w.heap.size w w2) := Lib.hid (Below.trans (Below.alloc bA (by omega) _) g2); clear gA g1 g2)
      go_roundw
      case rel => exact ⟨4, _, _, by omega, by go_num, rfl, HG1.out, HB2.out⟩
      case measure => simp [RowKit.intOf]
    · have HRS : Hid (RS wo 1 B (patL p).length d (strs (patL p))) := Lib.hid HG.out.rs
      have HJL : Hid ((join (patL p) [32]).length ≤ 140737488355328) := Lib.hid (by have h1 : (join (patL p) [32]).length ≤ 147 := patT_len p; omega)
      have HJ : Hid (∀ wx, wx = wo → Calls Tryz.prog 44 #[.slice B 4 d, .string ⟨#[32]⟩] wx fun e w' => e = .returned (str (patT p)) ∧ Below wx.heap.size wx w') := Lib.hid (fun wx hx => by
        subst hx
        exact ((S_Join (sep := [32]) _ HRS.out HJL.out (by decide))).mono (fun e w' h => ⟨h.1, by obtain ⟨_, rfl⟩ := h; exact Below.refl _ _⟩))
      go_wp2_with fail
      refine (HJ.out _ rfl).mono ?_
      rintro e w' ⟨rfl, hb⟩
      go_wp2_with fail
      go_ret
      exact ⟨rfl, Below.step hb HB.out HB.out.size⟩
set_option maxHeartbeats 8000000 in
theorem I_IsValidPatch (p : EPatch) (w : World) :
    Calls Tryz.prog 85 #[vPatch p] w fun e w' => e = .returned (.bool (validPt p)) ∧ Below w.heap.size w w' := by
  have HV : Hid (∀ (x y z : Int) (b : Bool), validV x y z = b → ∀ wx, Calls Tryz.prog 117 #[vVec x y z] wx fun e w' => e = .returned (.bool b) ∧ Below wx.heap.size wx w') := Lib.hid (fun x y z b h wx => by subst h; exact I_IsValidVec x y z wx)
  have HP : Hid (validPt p = (validV (p 0) (p 1) (p 2) && (validV (p 3) (p 4) (p 5) && (validV (p 6) (p 7) (p 8) && validV (p 9) (p 10) (p 11))))) := Lib.hid rfl
  have hix0 : ∀ wx : World, (Instr.index 75 (.agg #[.int .i64 (p 0), .int .i64 (p 1), .int .i64 (p 2), .int .i64 (p 3), .int .i64 (p 4), .int .i64 (p 5), .int .i64 (p 6), .int .i64 (p 7), .int .i64 (p 8), .int .i64 (p 9), .int .i64 (p 10), .int .i64 (p 11)]) (.int .i64 0)).run Tryz.prog wx = .ok (.agg #[.int .i64 (p 0), .int .i64 (p 1), .int .i64 (p 2)]) wx := fun wx => by kernel_rfl
  have hix1 : ∀ wx : World, (Instr.index 75 (.agg #[.int .i64 (p 0), .int .i64 (p 1), .int .i64 (p 2), .int .i64 (p 3), .int .i64 (p 4), .int .i64 (p 5), .int .i64 (p 6), .int .i64 (p 7), .int .i64 (p 8), .int .i64 (p 9), .int .i64 (p 10), .int .i64 (p 11)]) (.int .i64 1)).run Tryz.prog wx = .ok (.agg #[.int .i64 (p 3), .int .i64 (p 4), .int .i64 (p 5)]) wx := fun wx => by kernel_rfl
  have hix2 : ∀ wx : World, (Instr.index 75 (.agg #[.int .i64 (p 0), .int .i64 (p 1), .int .i64 (p 2), .int .i64 (p 3), .int .i64 (p 4), .int .i64 (p 5), .int .i64 (p 6), .int .i64 (p 7), .int .i64 (p 8), .int .i64 (p 9), .int .i64 (p 10), .int .i64 (p 11)]) (.int .i64 2)).run Tryz.prog wx = .ok (.agg #[.int .i64 (p 6), .int .i64 (p 7), .int .i64 (p 8)]) wx := fun wx => by kernel_rfl
  have hix3 : ∀ wx : World, (Instr.index 75 (.agg #[.int .i64 (p 0), .int .i64 (p 1), .int .i64 (p 2), .int .i64 (p 3), .int .i64 (p 4), .int .i64 (p 5), .int .i64 (p 6), .int .i64 (p 7), .int .i64 (p 8), .int .i64 (p 9), .int .i64 (p 10), .int .i64 (p 11)]) (.int .i64 3)).run Tryz.prog wx = .ok (.agg #[.int .i64 (p 9), .int .i64 (p 10), .int .i64 (p 11)]) wx := fun wx => by kernel_rfl
  go_enter Tryz.func85, Tryz.ntmps85
  go_wp2_with fail
  go_loopw [4, 7] (fun _ i wr => ∃ k : Nat, k ≤ 4 ∧ i = .int .i64 k ∧ (1 ≤ k → validV (p 0) (p 1) (p 2) = true) ∧ (2 ≤ k → validV (p 3) (p 4) (p 5) = true) ∧ (3 ≤ k → validV (p 6) (p 7) (p 8) = true) ∧ (4 ≤ k → validV (p 9) (p 10) (p 11) = true) ∧ Below w.heap.size w wr) (fun _ i _ => 4 - (RowKit.intOf i).toNat)
  case atStart => exact ⟨0, by omega, rfl, by omega, by omega, by omega, by omega, (by repeat (first | (with_reducible exact Below.refl _ _) | (with_reducible assumption) | ((with_reducible refine Below.alloc ?_ ?_ _); rotate_left; (first | omega | (simp <;> omega))) | ((with_reducible refine Below.setCell ?_ ?_ _); rotate_left; (first | omega | (simp <;> omega))) | (with_reducible refine below_drewN ?_ _) | (with_reducible refine Below.drew ?_) | ((with_reducible refine Below.step (by assumption) ?_ ?_); rotate_left; (first | omega | (simp <;> omega)))))⟩
  case round =>
    obtain ⟨k, hk, rfl, g0, g1, g2, g3, hb⟩ := hrel
    obtain ⟨wo, rfl⟩ : ∃ wo, wo = wr := ⟨_, rfl⟩
    have hz := hb.size
    have HB := Lib.hid hb
    have G0 := Lib.hid g0
    have G1 := Lib.hid g1
    have G2 := Lib.hid g2
    have G3 := Lib.hid g3
    clear hb g0 g1 g2 g3
    rcases (show k = 0 ∨ k = 1 ∨ k = 2 ∨ k = 3 ∨ k = 4 by omega) with rfl | rfl | rfl | rfl | rfl
    · rw [show ((0 : Nat) : Int) = 0 from rfl]
      cases hv : validV (p 0) (p 1) (p 2) with
      | true =>
        go_wp2_with (first | (go_at_call 117; refine (HV.out _ _ _ _ hv _).mono ?_; rintro e w' ⟨rfl, hbx⟩; have hzx := hbx.size; (try simp at hzx); have HBX : Hid (Below w.heap.size w w') := Lib.hid (Below.step hbx (by repeat (first | (with_reducible exact Below.refl _ _) | (with_reducible exact HB.out) | (with_reducible assumption) | ((with_reducible refine Below.alloc ?_ ?_ _); rotate_left; (first | omega | (simp <;> omega))) | ((with_reducible refine Below.setCell ?_ ?_ _); rotate_left; (first | omega | (simp <;> omega))) | (with_reducible refine below_drewN ?_ _) | (with_reducible refine Below.drew ?_) | ((with_reducible refine Below.step (by assumption) ?_ ?_); rotate_left; (first | omega | (simp <;> omega))))) (by first | omega | (simp <;> omega))); clear hbx) | fail)
        go_roundw
        case rel => exact ⟨1, by omega, by go_num, fun _ => by first | trivial | exact hv, by omega, by omega, by omega, HBX.out⟩
        case measure => simp [RowKit.intOf]
      | false =>
        have HF : Hid (validPt p = false) := Lib.hid (by rw [HP.out, hv]; simp)
        go_wp2_with (first | (go_at_call 117; refine (HV.out _ _ _ _ hv _).mono ?_; rintro e w' ⟨rfl, hbx⟩; have hzx := hbx.size; (try simp at hzx); have HBX : Hid (Below w.heap.size w w') := Lib.hid (Below.step hbx (by repeat (first | (with_reducible exact Below.refl _ _) | (with_reducible exact HB.out) | (with_reducible assumption) | ((with_reducible refine Below.alloc ?_ ?_ _); rotate_left; (first | omega | (simp <;> omega))) | ((with_reducible refine Below.setCell ?_ ?_ _); rotate_left; (first | omega | (simp <;> omega))) | (with_reducible refine below_drewN ?_ _) | (with_reducible refine Below.drew ?_) | ((with_reducible refine Below.step (by assumption) ?_ ?_); rotate_left; (first | omega | (simp <;> omega))))) (by first | omega | (simp <;> omega))); clear hbx) | fail)
        go_ret
        exact ⟨ret_bool HF.out.symm, HBX.out⟩
    · rw [show ((1 : Nat) : Int) = 1 from rfl]
      cases hv : validV (p 3) (p 4) (p 5) with
      | true =>
        go_wp2_with (first | (go_at_call 117; refine (HV.out _ _ _ _ hv _).mono ?_; rintro e w' ⟨rfl, hbx⟩; have hzx := hbx.size; (try simp at hzx); have HBX : Hid (Below w.heap.size w w') := Lib.hid (Below.step hbx (by repeat (first | (with_reducible exact Below.refl _ _) | (with_reducible exact HB.out) | (with_reducible assumption) | ((with_reducible refine Below.alloc ?_ ?_ _); rotate_left; (first | omega | (simp <;> omega))) | ((with_reducible refine Below.setCell ?_ ?_ _); rotate_left; (first | omega | (simp <;> omega))) | (with_reducible refine below_drewN ?_ _) | (with_reducible refine Below.drew ?_) | ((with_reducible refine Below.step (by assumption) ?_ ?_); rotate_left; (first | omega | (simp <;> omega))))) (by first | omega | (simp <;> omega))); clear hbx) | fail)
        go_roundw
        case rel => exact ⟨2, by omega, by go_num, fun _ => by first | trivial | exact G0.out (by omega), fun _ => by first | trivial | exact hv, by omega, by omega, HBX.out⟩
        case measure => simp [RowKit.intOf]
      | false =>
        have HF : Hid (validPt p = false) := Lib.hid (by rw [HP.out, hv]; simp)
        go_wp2_with (first | (go_at_call 117; refine (HV.out _ _ _ _ hv _).mono ?_; rintro e w' ⟨rfl, hbx⟩; have hzx := hbx.size; (try simp at hzx); have HBX : Hid (Below w.heap.size w w') := Lib.hid (Below.step hbx (by repeat (first | (with_reducible exact Below.refl _ _) | (with_reducible exact HB.out) | (with_reducible assumption) | ((with_reducible refine Below.alloc ?_ ?_ _); rotate_left; (first | omega | (simp <;> omega))) | ((with_reducible refine Below.setCell ?_ ?_ _); rotate_left; (first | omega | (simp <;> omega))) | (with_reducible refine below_drewN ?_ _) | (with_reducible refine Below.drew ?_) | ((with_reducible refine Below.step (by assumption) ?_ ?_); rotate_left; (first | omega | (simp <;> omega))))) (by first | omega | (simp <;> omega))); clear hbx) | fail)
        go_ret
        exact ⟨ret_bool HF.out.symm, HBX.out⟩
    · rw [show ((2 : Nat) : Int) = 2 from rfl]
      cases hv : validV (p 6) (p 7) (p 8) with
      | true =>
        go_wp2_with (first | (go_at_call 117; refine (HV.out _ _ _ _ hv _).mono ?_; rintro e w' ⟨rfl, hbx⟩; have hzx := hbx.size; (try simp at hzx); have HBX : Hid (Below w.heap.size w w') := Lib.hid (Below.step hbx (by repeat (first | (with_reducible exact Below.refl _ _) | (with_reducible exact HB.out) | (with_reducible assumption) | ((with_reducible refine Below.alloc ?_ ?_ _); rotate_left; (first | omega | (simp <;> omega))) | ((with_reducible refine Below.setCell ?_ ?_ _); rotate_left; (first | omega | (simp <;> omega))) | (with_reducible refine below_drewN ?_ _) | (with_reducible refine Below.drew ?_) | ((with_reducible refine Below.step (by assumption) ?_ ?_); rotate_left; (first | omega | (simp <;> omega))))) (by first | omega | (simp <;> omega))); clear hbx) | fail)
        go_roundw
        case rel => exact ⟨3, by omega, by go_num, fun _ => by first | trivial | exact G0.out (by omega), fun _ => by first | trivial | exact G1.out (by omega), fun _ => by first | trivial | exact hv, by omega, HBX.out⟩
        case measure => simp [RowKit.intOf]
      | false =>
        have HF : Hid (validPt p = false) := Lib.hid (by rw [HP.out, hv]; simp)
        go_wp2_with (first | (go_at_call 117; refine (HV.out _ _ _ _ hv _).mono ?_; rintro e w' ⟨rfl, hbx⟩; have hzx := hbx.size; (try simp at hzx); have HBX : Hid (Below w.heap.size w w') := Lib.hid (Below.step hbx (by repeat (first | (with_reducible exact Below.refl _ _) | (with_reducible exact HB.out) | (with_reducible assumption) | ((with_reducible refine Below.alloc ?_ ?_ _); rotate_left; (first | omega | (simp <;> omega))) | ((with_reducible refine Below.setCell ?_ ?_ _); rotate_left; (first | omega | (simp <;> omega))) | (with_reducible refine below_drewN ?_ _) | (with_reducible refine Below.drew ?_) | ((with_reducible refine Below.step (by assumption) ?_ ?_); rotate_left; (first | omega | (simp <;> omega))))) (by first | omega | (simp <;> omega))); clear hbx) | fail)
        go_ret
        exact ⟨ret_bool HF.out.symm, HBX.out⟩
    · rw [show ((3 : Nat) : Int) = 3 from rfl]
      cases hv : validV (p 9) (p 10) (p 11) with
      | true =>
        go_wp2_with (first | (go_at_call 117; refine (HV.out _ _ _ _ hv _).mono ?_; rintro e w' ⟨rfl, hbx⟩; have hzx := hbx.size; (try simp at hzx); have HBX : Hid (Below w.heap.size w w') := Lib.hid (Below.step hbx (by repeat (first | (with_reducible exact Below.refl _ _) | (with_reducible exact HB.out) | (with_reducible assumption) | ((with_reducible refine Below.alloc ?_ ?_ _); rotate_left; (first | omega | (simp <;> omega))) | ((with_reducible refine Below.setCell ?_ ?_ _); rotate_left; (first | omega | (simp <;> omega))) | (with_reducible refine below_drewN ?_ _) | (with_reducible refine Below.drew ?_) | ((with_reducible refine Below.step (by assumption) ?_ ?_); rotate_left; (first | omega | (simp <;> omega))))) (by first | omega | (simp <;> omega))); clear hbx) | fail)
        go_roundw
        case rel => exact ⟨4, by omega, by go_num, fun _ => by first | trivial | exact G0.out (by omega), fun _ => by first | trivial | exact G1.out (by omega), fun _ => by first | trivial | exact G2.out (by omega), fun _ => by first | trivial | exact hv, HBX.out⟩
        case measure => simp [RowKit.intOf]
      | false =>
        have HF : Hid (validPt p = false) := Lib.hid (by rw [HP.out, hv]; simp)
        go_wp2_with (first | (go_at_call 117; refine (HV.out _ _ _ _ hv _).mono ?_; rintro e w' ⟨rfl, hbx⟩; have hzx := hbx.size; (try simp at hzx); have HBX : Hid (Below w.heap.size w w') := Lib.hid (Below.step hbx (by repeat (first | (with_reducible exact Below.refl _ _) | (with_reducible exact HB.out) | (with_reducible assumption) | ((with_reducible refine Below.alloc ?_ ?_ _); rotate_left; (first | omega | (simp <;> omega))) | ((with_reducible refine Below.setCell ?_ ?_ _); rotate_left; (first | omega | (simp <;> omega))) | (with_reducible refine below_drewN ?_ _) | (with_reducible refine Below.drew ?_) | ((with_reducible refine Below.step (by assumption) ?_ ?_); rotate_left; (first | omega | (simp <;> omega))))) (by first | omega | (simp <;> omega))); clear hbx) | fail)
        go_ret
        exact ⟨ret_bool HF.out.symm, HBX.out⟩
    · have HF : Hid (validPt p = true) := Lib.hid (by rw [HP.out, G0.out (by omega), G1.out (by omega), G2.out (by omega), G3.out (by omega)]; rfl)
      go_wp2_with fail
      go_ret
      exact ⟨ret_bool HF.out.symm, (by repeat (first | (with_reducible exact Below.refl _ _) | (with_reducible exact HB.out) | (with_reducible assumption) | ((with_reducible refine Below.alloc ?_ ?_ _); rotate_left; (first | omega | (simp <;> omega))) | ((with_reducible refine Below.setCell ?_ ?_ _); rotate_left; (first | omega | (simp <;> omega))) | (with_reducible refine below_drewN ?_ _) | (with_reducible refine Below.drew ?_) | ((with_reducible refine Below.step (by assumption) ?_ ?_); rotate_left; (first | omega | (simp <;> omega)))))⟩
set_option maxHeartbeats 4000000 in
theorem I_FormatVec (x y z : Int) (w : World) (hv : validV x y z = true) (ht : Tab w) :
    Calls Tryz.prog 94 #[vVec x y z] w fun e w' => e = .returned (str (vecT x y z)) ∧ Below w.heap.size w w' := by
  have HV : Hid (∀ wx, Calls Tryz.prog 117 #[vVec x y z] wx fun e w' => e = .returned (.bool true) ∧ Below wx.heap.size wx w') := Lib.hid (fun wx => by have := I_IsValidVec x y z wx; rw [hv] at this; exact this)
  have HF : Hid (∀ (wx : World) (A : Option Addr), RS wx 1 A 3 3 (ints [x, y, z]) → Below w.heap.size w wx → Calls Tryz.prog 87 #[.slice A 3 3] wx fun e w' => e = .returned (str (vecT x y z)) ∧ Below wx.heap.size wx w') := Lib.hid (fun wx A h hbx => I_FormatInts (l := [x, y, z]) wx h (validV_num hv) (by simp) (by simp) (ht.step hbx))
  clear hv ht
  go_enter Tryz.func94, Tryz.ntmps94
  go_wp2_with (first | (go_at_call 117; refine (HV.out _).mono ?_; rintro e w1 ⟨rfl, hb1⟩; have hz1 := hb1.size; (try simp at hz1); have c0 := fun o => hb1.cell (p := ⟨w.heap.size, o, none⟩) (by first | omega | (simp <;> omega)); have HB1 : Hid (Below w.heap.size w w1) := Lib.hid (Below.step hb1 (by repeat (first | (with_reducible exact Below.refl _ _) | (with_reducible assumption) | ((with_reducible refine Below.alloc ?_ ?_ _); rotate_left; (first | omega | (simp <;> omega))) | ((with_reducible refine Below.setCell ?_ ?_ _); rotate_left; (first | omega | (simp <;> omega))) | (with_reducible refine below_drewN ?_ _) | (with_reducible refine Below.drew ?_) | ((with_reducible refine Below.step (by assumption) ?_ ?_); rotate_left; (first | omega | (simp <;> omega))))) (by first | omega | (simp <;> omega))); clear hb1) | fail)
  refine (HF.out _ _ ?_ (by repeat (first | (with_reducible exact Below.refl _ _) | (with_reducible exact HB1.out) | (with_reducible assumption) | ((with_reducible refine Below.alloc ?_ ?_ _); rotate_left; (first | omega | (simp <;> omega))) | ((with_reducible refine Below.setCell ?_ ?_ _); rotate_left; (first | omega | (simp <;> omega))) | (with_reducible refine below_drewN ?_ _) | (with_reducible refine Below.drew ?_) | ((with_reducible refine Below.step (by assumption) ?_ ?_); rotate_left; (first | omega | (simp <;> omega)))))).mono ?_
  · exact Own.rs (n := 3) (size := 1) (by first | exact Own.new _ _ #[_, _, _] | exact Own.at_new (cs := #[_, _, _]) rfl) rfl (by decide)
  rintro e w' ⟨rfl, hb⟩
  have hz := hb.size
  (try simp at hz)
  go_wp2_with fail
  go_ret
  exact ⟨rfl, (by repeat (first | (with_reducible exact Below.refl _ _) | (with_reducible exact HB1.out) | (with_reducible assumption) | ((with_reducible refine Below.alloc ?_ ?_ _); rotate_left; (first | omega | (simp <;> omega))) | ((with_reducible refine Below.setCell ?_ ?_ _); rotate_left; (first | omega | (simp <;> omega))) | (with_reducible refine below_drewN ?_ _) | (with_reducible refine Below.drew ?_) | ((with_reducible refine Below.step (by assumption) ?_ ?_); rotate_left; (first | omega | (simp <;> omega)))))⟩
set_option maxHeartbeats 8000000 in
theorem I_FormatPatch (p : EPatch) (w : World) (hv : validPt p = true) (ht : Tab w) :
    Calls Tryz.prog 60 #[vPatch p] w fun e w' => e = .returned (str (patT p)) ∧ Below w.heap.size w w' := by
  have HV : Hid (∀ wx, Calls Tryz.prog 85 #[vPatch p] wx fun e w' => e = .returned (.bool true) ∧ Below wx.heap.size wx w') := Lib.hid (fun wx => by have := I_IsValidPatch p wx; rw [hv] at this; exact this)
  obtain ⟨v0, v1, v2, v3⟩ := validPt_at hv
  have HF : Hid (∀ (x y z : Int), validV x y z = true → ∀ wx : World, Below w.heap.size w wx → Calls Tryz.prog 94 #[vVec x y z] wx fun e w' => e = .returned (str (vecT x y z)) ∧ Below wx.heap.size wx w') := Lib.hid (fun x y z h wx hbx => I_FormatVec x y z wx h (ht.step hbx))
  have V0 := Lib.hid v0
  have V1 := Lib.hid v1
  have V2 := Lib.hid v2
  have V3 := Lib.hid v3
  clear hv v0 v1 v2 v3 ht
  have hix0 : ∀ wx : World, (Instr.index 75 (.agg #[.int .i64 (p 0), .int .i64 (p 1), .int .i64 (p 2), .int .i64 (p 3), .int .i64 (p 4), .int .i64 (p 5), .int .i64 (p 6), .int .i64 (p 7), .int .i64 (p 8), .int .i64 (p 9), .int .i64 (p 10), .int .i64 (p 11)]) (.int .i64 0)).run Tryz.prog wx = .ok (.agg #[.int .i64 (p 0), .int .i64 (p 1), .int .i64 (p 2)]) wx := fun wx => by kernel_rfl
  have hix1 : ∀ wx : World, (Instr.index 75 (.agg #[.int .i64 (p 0), .int .i64 (p 1), .int .i64 (p 2), .int .i64 (p 3), .int .i64 (p 4), .int .i64 (p 5), .int .i64 (p 6), .int .i64 (p 7), .int .i64 (p 8), .int .i64 (p 9), .int .i64 (p 10), .int .i64 (p 11)]) (.int .i64 1)).run Tryz.prog wx = .ok (.agg #[.int .i64 (p 3), .int .i64 (p 4), .int .i64 (p 5)]) wx := fun wx => by kernel_rfl
  have hix2 : ∀ wx : World, (Instr.index 75 (.agg #[.int .i64 (p 0), .int .i64 (p 1), .int .i64 (p 2), .int .i64 (p 3), .int .i64 (p 4), .int .i64 (p 5), .int .i64 (p 6), .int .i64 (p 7), .int .i64 (p 8), .int .i64 (p 9), .int .i64 (p 10), .int .i64 (p 11)]) (.int .i64 2)).run Tryz.prog wx = .ok (.agg #[.int .i64 (p 6), .int .i64 (p 7), .int .i64 (p 8)]) wx := fun wx => by kernel_rfl
  have hix3 : ∀ wx : World, (Instr.index 75 (.agg #[.int .i64 (p 0), .int .i64 (p 1), .int .i64 (p 2), .int .i64 (p 3), .int .i64 (p 4), .int .i64 (p 5), .int .i64 (p 6), .int .i64 (p 7), .int .i64 (p 8), .int .i64 (p 9), .int .i64 (p 10), .int .i64 (p 11)]) (.int .i64 3)).run Tryz.prog wx = .ok (.agg #[.int .i64 (p 9), .int .i64 (p 10), .int .i64 (p 11)]) wx := fun wx => by kernel_rfl
  go_enter Tryz.func60, Tryz.ntmps60
  go_wp2_with (first | (go_at_call 85; refine (HV.out _).mono ?_; rintro e w1 ⟨rfl, hb1⟩; have hz1 := hb1.size; (try simp at hz1); have c0 := fun o => hb1.cell (p := ⟨w.heap.size, o, none⟩) (by first | omega | (simp <;> omega)); have lt1 : w.heap.size < w1.heap.size := (by omega); have ne1 : ¬ w.heap.size = w1.heap.size := (by omega); have HB1 : Hid (Below w.heap.size w w1) := Lib.hid (Below.step hb1 (by repeat (first | (with_reducible exact Below.refl _ _) | (with_reducible assumption) | ((with_reducible refine Below.alloc ?_ ?_ _); rotate_left; (first | omega | (simp <;> omega))) | ((with_reducible refine Below.setCell ?_ ?_ _); rotate_left; (first | omega | (simp <;> omega))) | (with_reducible refine below_drewN ?_ _) | (with_reducible refine Below.drew ?_) | ((with_reducible refine Below.step (by assumption) ?_ ?_); rotate_left; (first | omega | (simp <;> omega))))) (by first | omega | (simp <;> omega))); clear hb1) | fail)
  have HG0 : Hid (Grow (w1.alloc (.cells #[] 9)) w.heap.size 9 1 (some ⟨w1.heap.size, 0, none⟩) 0 0 (strs ((patL p).take 0))) := Lib.hid (Grow.lit w1 #[] 0 rfl (by omega) (Nat.zero_le _))
  go_loopw [3, 5, 12] (fun o _ i wr => ∃ (k : Nat) (B : Option Addr) (d : Nat), k ≤ 4 ∧ i = .int .i64 k ∧ o = .slice B k d ∧ Grow wr w.heap.size 9 1 B k d (strs ((patL p).take k)) ∧ Below w.heap.size w wr) (fun _ _ i _ => 4 - (RowKit.intOf i).toNat)
  case atStart => exact ⟨0, _, _, by omega, rfl, rfl, HG0.out, (by repeat (first | (with_reducible exact Below.refl _ _) | (with_reducible exact HB1.out) | (with_reducible assumption) | ((with_reducible refine Below.alloc ?_ ?_ _); rotate_left; (first | omega | (simp <;> omega))) | ((with_reducible refine Below.setCell ?_ ?_ _); rotate_left; (first | omega | (simp <;> omega))) | (with_reducible refine below_drewN ?_ _) | (with_reducible refine Below.drew ?_) | ((with_reducible refine Below.step (by assumption) ?_ ?_); rotate_left; (first | omega | (simp <;> omega)))))⟩
  case round =>
    obtain ⟨k, B, d, hk, rfl, rfl, hg, hb⟩ := hrel
    obtain ⟨wo, rfl⟩ : ∃ wo, wo = wr := ⟨_, rfl⟩
    have HG := Lib.hid hg
    have HB := Lib.hid hb
    have hz := hb.size
    clear hg hb HG0 c0 HB1
    rcases (show k = 0 ∨ k = 1 ∨ k = 2 ∨ k = 3 ∨ k = 4 by omega) with rfl | rfl | rfl | rfl | rfl
    · rw [show ((0 : Nat) : Int) = 0 from rfl]
      have HS : Hid (strs ((patL p).take 1) = strs ((patL p).take 0) ++ strs [vecT (p 0) (p 1) (p 2)]) := Lib.hid rfl
      obtain ⟨y, hy⟩ : ∃ y, vecT (p 0) (p 1) (p 2) = y := ⟨_, rfl⟩
      have HC : Hid (∀ wx : World, Below w.heap.size w wx → Calls Tryz.prog 94 #[vVec (p 0) (p 1) (p 2)] wx fun e w' => e = .returned (str y) ∧ Below wx.heap.size wx w') := Lib.hid (fun wx hbx => by rw [← hy]; exact HF.out _ _ _ V0.out wx hbx)
      rw [hy] at HS
      clear hy
      go_wp2_with fail
      refine (HC.out _ (by repeat (first | (with_reducible exact Below.refl _ _) | (with_reducible exact HB.out) | (with_reducible assumption) | ((with_reducible refine Below.alloc ?_ ?_ _); rotate_left; (first | omega | (simp <;> omega))) | ((with_reducible refine Below.setCell ?_ ?_ _); rotate_left; (first | omega | (simp <;> omega))) | (with_reducible refine below_drewN ?_ _) | (with_reducible refine Below.drew ?_) | ((with_reducible refine Below.step (by assumption) ?_ ?_); rotate_left; (first | omega | (simp <;> omega)))))).mono ?_
      rintro e wA ⟨rfl, hbA⟩
      have bA : Below w.heap.size w wA := Below.step hbA (by repeat (first | (with_reducible exact Below.refl _ _) | (with_reducible exact HB.out) | (with_reducible assumption) | ((with_reducible refine Below.alloc ?_ ?_ _); rotate_left; (first | omega | (simp <;> omega))) | ((with_reducible refine Below.setCell ?_ ?_ _); rotate_left; (first | omega | (simp <;> omega))) | (with_reducible refine below_drewN ?_ _) | (with_reducible refine Below.drew ?_) | ((with_reducible refine Below.step (by assumption) ?_ ?_); rotate_left; (first | omega | (simp <;> omega))))) (by first | omega | (simp <;> omega))
      have zA := hbA.size
      (try simp at zA)
      have HGA : Hid (Grow wA w.heap.size 9 1 B 0 d (strs ((patL p).take 0))) := Lib.hid (Grow.step hbA (by repeat (first | (with_reducible exact HG.out) | (with_reducible refine Grow.alloc ?_ _) | (with_reducible refine Grow.drewN ?_ _) | (with_reducible refine Grow.drew ?_) | ((with_reducible refine Grow.far ?_ ?_ _); rotate_left; (first | omega | (simp <;> omega))) | (with_reducible refine Grow.step (by assumption) ?_))))
      clear hbA
      go_wp2_with (at_builtin; refine wpList_app (by rfl) _ _ 85 (by rfl) (w.heap.size) 9 (.string ByteArray.empty) 1 16 Tryz.underlying85 T.infoString rfl (by decide) (xs := strs ((patL p).take 0)) (by rfl) ?_ (ys := strs [y]) (by rfl) ?_ (strs_one _) ?_ ?_ ?_ ?_; (exact (by repeat (first | (with_reducible exact HGA.out) | (with_reducible refine Grow.alloc ?_ _) | (with_reducible refine Grow.drewN ?_ _) | (with_reducible refine Grow.drew ?_) | ((with_reducible refine Grow.far ?_ ?_ _); rotate_left; (first | omega | (simp <;> omega))) | (with_reducible refine Grow.step (by assumption) ?_)))); (exact (Grow.rs (base := 0) (n := 1) (c := 1) (by repeat (first | (with_reducible refine Grow.drewN ?_ _) | (with_reducible refine Grow.drew ?_) | (refine Grow.lit_at (by simp) (by rfl) (Nat.zero_le _) (by unfold maxLen; omega)))))); (unfold maxLen; omega); (omega); (first | omega | (simp <;> omega)); rintro A' c' w2 gA; have g1 := gA.1; have g2 := gA.2.1; rw [← HS.out] at g1; have HG1 := Lib.hid g1; have HB2 : Hid (Below w.heap.size w w2) := Lib.hid (Below.trans (Below.alloc bA (by omega) _) g2); clear gA g1 g2)
      go_roundw
      case rel => exact ⟨1, _, _, by omega, by go_num, rfl, HG1.out, HB2.out⟩
      case measure => simp [RowKit.intOf]
    · rw [show ((1 : Nat) : Int) = 1 from rfl]
      have HS : Hid (strs ((patL p).take 2) = strs ((patL p).take 1) ++ strs [vecT (p 3) (p 4) (p 5)]) := Lib.hid rfl
      obtain ⟨y, hy⟩ : ∃ y, vecT (p 3) (p 4) (p 5) = y := ⟨_, rfl⟩
      have HC : Hid (∀ wx : World, Below w.heap.size w wx → Calls Tryz.prog 94 #[vVec (p 3) (p 4) (p 5)] wx fun e w' => e = .returned (str y) ∧ Below wx.heap.size wx w') := Lib.hid (fun wx hbx => by rw [← hy]; exact HF.out _ _ _ V1.out wx hbx)
      rw [hy] at HS
      clear hy
      go_wp2_with fail
      refine (HC.out _ (by repeat (first | (with_reducible exact Below.refl _ _) | (with_reducible exact HB.out) | (with_reducible assumption) | ((with_reducible refine Below.alloc ?_ ?_ _); rotate_left; (first | omega | (simp <;> omega))) | ((with_reducible refine Below.setCell ?_ ?_ _); rotate_left; (first | omega | (simp <;> omega))) | (with_reducible refine below_drewN ?_ _) | (with_reducible refine Below.drew ?_) | ((with_reducible refine Below.step (by assumption) ?_ ?_); rotate_left; (first | omega | (simp <;> omega)))))).mono ?_
      rintro e wA ⟨rfl, hbA⟩
      have bA : Below w.heap.size w wA := Below.step hbA (by repeat (first | (with_reducible exact Below.refl _ _) | (with_reducible exact HB.out) | (with_reducible assumption) | ((with_reducible refine Below.alloc ?_ ?_ _); rotate_left; (first | omega | (simp <;> omega))) | ((with_reducible refine Below.setCell ?_ ?_ _); rotate_left; (first | omega | (simp <;> omega))) | (with_reducible refine below_drewN ?_ _) | (with_reducible refine Below.drew ?_) | ((with_reducible refine Below.step (by assumption) ?_ ?_); rotate_left; (first | omega | (simp <;> omega))))) (by first | omega | (simp <;> omega))
      have zA := hbA.size
      (try simp at zA)
      have HGA : Hid (Grow wA w.heap.size 9 1 B 1 d (strs ((patL p).take 1))) := Lib.hid (Grow.step hbA (by repeat (first | (with_reducible exact HG.out) | (with_reducible refine Grow.alloc ?_ _) | (with_reducible refine Grow.drewN ?_ _) | (with_reducible refine Grow.drew ?_) | ((with_reducible refine Grow.far ?_ ?_ _); rotate_left; (first | omega | (simp <;> omega))) | (with_reducible refine Grow.step (by assumption) ?_))))
      clear hbA
      go_wp2_with (at_builtin; refine wpList_app (by rfl) _ _ 85 (by rfl) (w.heap.size) 9 (.string ByteArray.empty) 1 16 Tryz.underlying85 T.infoString rfl (by decide) (xs := strs ((patL p).take 1)) (by rfl) ?_ (ys := strs [y]) (by rfl) ?_ (strs_one _) ?_ ?_ ?_ ?_; (exact (by repeat (first | (with_reducible exact HGA.out) | (with_reducible refine Grow.alloc ?_ _) | (with_reducible refine Grow.drewN ?_ _) | (with_reducible refine Grow.drew ?_) | ((with_reducible refine Grow.far ?_ ?_ _); rotate_left; (first | omega | (simp <;> omega))) | (with_reducible refine Grow.step (by assumption) ?_)))); (exact (Grow.rs (base := 0) (n := 1) (c := 1) (by repeat (first | (with_reducible refine Grow.drewN ?_ _) | (with_reducible refine Grow.drew ?_) | (refine Grow.lit_at (by simp) (by rfl) (Nat.zero_le _) (by unfold maxLen; omega)))))); (unfold maxLen; omega); (omega); (first | omega | (simp <;> omega)); rintro A' c' w2 gA; have g1 := gA.1; have g2 := gA.2.1; rw [← HS.out] at g1; have HG1 := Lib.hid g1; have HB2 : Hid (Below w.heap.size w w2) := Lib.hid (Below.trans (Below.alloc bA (by omega) _) g2); clear gA g1 g2)
      go_roundw
      case rel => exact ⟨2, _, _, by omega, by go_num, rfl, HG1.out, HB2.out⟩
      case measure => simp [RowKit.intOf]
    · rw [show ((2 : Nat) : Int) = 2 from rfl]
      have HS : Hid (strs ((patL p).take 3) = strs ((patL p).take 2) ++ strs [vecT (p 6) (p 7) (p 8)]) := Lib.hid rfl
      obtain ⟨y, hy⟩ : ∃ y, vecT (p 6) (p 7) (p 8) = y := ⟨_, rfl⟩
      have HC : Hid (∀ wx : World, Below w.heap.size w wx → Calls Tryz.prog 94 #[vVec (p 6) (p 7) (p 8)] wx fun e w' => e = .returned (str y) ∧ Below wx.heap.size wx w') := Lib.hid (fun wx hbx => by rw [← hy]; exact HF.out _ _ _ V2.out wx hbx)
      rw [hy] at HS
      clear hy
      go_wp2_with fail
      refine (HC.out _ (by repeat (first | (with_reducible exact Below.refl _ _) | (with_reducible exact HB.out) | (with_reducible assumption) | ((with_reducible refine Below.alloc ?_ ?_ _); rotate_left; (first | omega | (simp <;> omega))) | ((with_reducible refine Below.setCell ?_ ?_ _); rotate_left; (first | omega | (simp <;> omega))) | (with_reducible refine below_drewN ?_ _) | (with_reducible refine Below.drew ?_) | ((with_reducible refine Below.step (by assumption) ?_ ?_); rotate_left; (first | omega | (simp <;> omega)))))).mono ?_
      rintro e wA ⟨rfl, hbA⟩
      have bA : Below w.heap.size w wA := Below.step hbA (by repeat (first | (with_reducible exact Below.refl _ _) | (with_reducible exact HB.out) | (with_reducible assumption) | ((with_reducible refine Below.alloc ?_ ?_ _); rotate_left; (first | omega | (simp <;> omega))) | ((with_reducible refine Below.setCell ?_ ?_ _); rotate_left; (first | omega | (simp <;> omega))) | (with_reducible refine below_drewN ?_ _) | (with_reducible refine Below.drew ?_) | ((with_reducible refine Below.step (by assumption) ?_ ?_); rotate_left; (first | omega | (simp <;> omega))))) (by first | omega | (simp <;> omega))
      have zA := hbA.size
      (try simp at zA)
      have HGA : Hid (Grow wA w.heap.size 9 1 B 2 d (strs ((patL p).take 2))) := Lib.hid (Grow.step hbA (by repeat (first | (with_reducible exact HG.out) | (with_reducible refine Grow.alloc ?_ _) | (with_reducible refine Grow.drewN ?_ _) | (with_reducible refine Grow.drew ?_) | ((with_reducible refine Grow.far ?_ ?_ _); rotate_left; (first | omega | (simp <;> omega))) | (with_reducible refine Grow.step (by assumption) ?_))))
      clear hbA
      go_wp2_with (at_builtin; refine wpList_app (by rfl) _ _ 85 (by rfl) (w.heap.size) 9 (.string ByteArray.empty) 1 16 Tryz.underlying85 T.infoString rfl (by decide) (xs := strs ((patL p).take 2)) (by rfl) ?_ (ys := strs [y]) (by rfl) ?_ (strs_one _) ?_ ?_ ?_ ?_; (exact (by repeat (first | (with_reducible exact HGA.out) | (with_reducible refine Grow.alloc ?_ _) | (with_reducible refine Grow.drewN ?_ _) | (with_reducible refine Grow.drew ?_) | ((with_reducible refine Grow.far ?_ ?_ _); rotate_left; (first | omega | (simp <;> omega))) | (with_reducible refine Grow.step (by assumption) ?_)))); (exact (Grow.rs (base := 0) (n := 1) (c := 1) (by repeat (first | (with_reducible refine Grow.drewN ?_ _) | (with_reducible refine Grow.drew ?_) | (refine Grow.lit_at (by simp) (by rfl) (Nat.zero_le _) (by unfold maxLen; omega)))))); (unfold maxLen; omega); (omega); (first | omega | (simp <;> omega)); rintro A' c' w2 gA; have g1 := gA.1; have g2 := gA.2.1; rw [← HS.out] at g1; have HG1 := Lib.hid g1; have HB2 : Hid (Below w.heap.size w w2) := Lib.hid (Below.trans (Below.alloc bA (by omega) _) g2); clear gA g1 g2)
      go_roundw
      case rel => exact ⟨3, _, _, by omega, by go_num, rfl, HG1.out, HB2.out⟩
      case measure => simp [RowKit.intOf]
    · rw [show ((3 : Nat) : Int) = 3 from rfl]
      have HS : Hid (strs ((patL p).take 4) = strs ((patL p).take 3) ++ strs [vecT (p 9) (p 10) (p 11)]) := Lib.hid rfl
      obtain ⟨y, hy⟩ : ∃ y, vecT (p 9) (p 10) (p 11) = y := ⟨_, rfl⟩
      have HC : Hid (∀ wx : World, Below w.heap.size w wx → Calls Tryz.prog 94 #[vVec (p 9) (p 10) (p 11)] wx fun e w' => e = .returned (str y) ∧ Below wx.heap.size wx w') := Lib.hid (fun wx hbx => by rw [← hy]; exact HF.out _ _ _ V3.out wx hbx)
      rw [hy] at HS
      clear hy
      go_wp2_with fail
      refine (HC.out _ (by repeat (first | (with_reducible exact Below.refl _ _) | (with_reducible exact HB.out) | (with_reducible assumption) | ((with_reducible refine Below.alloc ?_ ?_ _); rotate_left; (first | omega | (simp <;> omega))) | ((with_reducible refine Below.setCell ?_ ?_ _); rotate_left; (first | omega | (simp <;> omega))) | (with_reducible refine below_drewN ?_ _) | (with_reducible refine Below.drew ?_) | ((with_reducible refine Below.step (by assumption) ?_ ?_); rotate_left; (first | omega | (simp <;> omega)))))).mono ?_
      rintro e wA ⟨rfl, hbA⟩
      have bA : Below w.heap.size w wA := Below.step hbA (by repeat (first | (with_reducible exact Below.refl _ _) | (with_reducible exact HB.out) | (with_reducible assumption) | ((with_reducible refine Below.alloc ?_ ?_ _); rotate_left; (first | omega | (simp <;> omega))) | ((with_reducible refine Below.setCell ?_ ?_ _); rotate_left; (first | omega | (simp <;> omega))) | (with_reducible refine below_drewN ?_ _) | (with_reducible refine Below.drew ?_) | ((with_reducible refine Below.step (by assumption) ?_ ?_); rotate_left; (first | omega | (simp <;> omega))))) (by first | omega | (simp <;> omega))
      have zA := hbA.size
      (try simp at zA)
      have HGA : Hid (Grow wA w.heap.size 9 1 B 3 d (strs ((patL p).take 3))) := Lib.hid (Grow.step hbA (by repeat (first | (with_reducible exact HG.out) | (with_reducible refine Grow.alloc ?_ _) | (with_reducible refine Grow.drewN ?_ _) | (with_reducible refine Grow.drew ?_) | ((with_reducible refine Grow.far ?_ ?_ _); rotate_left; (first | omega | (simp <;> omega))) | (with_reducible refine Grow.step (by assumption) ?_))))
      clear hbA
      go_wp2_with (at_builtin; refine wpList_app (by rfl) _ _ 85 (by rfl) (w.heap.size) 9 (.string ByteArray.empty) 1 16 Tryz.underlying85 T.infoString rfl (by decide) (xs := strs ((patL p).take 3)) (by rfl) ?_ (ys := strs [y]) (by rfl) ?_ (strs_one _) ?_ ?_ ?_ ?_; (exact (by repeat (first | (with_reducible exact HGA.out) | (with_reducible refine Grow.alloc ?_ _) | (with_reducible refine Grow.drewN ?_ _) | (with_reducible refine Grow.drew ?_) | ((with_reducible refine Grow.far ?_ ?_ _); rotate_left; (first | omega | (simp <;> omega))) | (with_reducible refine Grow.step (by assumption) ?_)))); (exact (Grow.rs (base := 0) (n := 1) (c := 1) (by repeat (first | (with_reducible refine Grow.drewN ?_ _) | (with_reducible refine Grow.drew ?_) | (refine Grow.lit_at (by simp) (by rfl) (Nat.zero_le _) (by unfold maxLen; omega)))))); (unfold maxLen; omega); (omega); (first | omega | (simp <;> omega)); rintro A' c' w2 gA; have g1 := gA.1; have g2 := gA.2.1; rw [← HS.out] at g1; have HG1 := Lib.hid g1; have HB2 : Hid (Below w.heap.size w w2) := Lib.hid (Below.trans (Below.alloc bA (by omega) _) g2); clear gA g1 g2)
      go_roundw
      case rel => exact ⟨4, _, _, by omega, by go_num, rfl, HG1.out, HB2.out⟩
      case measure => simp [RowKit.intOf]
    · have HRS : Hid (RS wo 1 B (patL p).length d (strs (patL p))) := Lib.hid HG.out.rs
      have HJL : Hid ((join (patL p) [32]).length ≤ 140737488355328) := Lib.hid (by have h1 : (join (patL p) [32]).length ≤ 147 := patT_len p; omega)
      have HJ : Hid (∀ wx, wx = wo → Calls Tryz.prog 59 #[.slice B 4 d, .string ⟨#[32]⟩] wx fun e w' => e = .returned (str (patT p)) ∧ Below wx.heap.size wx w') := Lib.hid (fun wx hx => by
        subst hx
        exact (I_Join (sep := [32]) _ HRS.out (by simp [patL]) (by simp [patL]) HJL.out))
      go_wp2_with fail
      refine (HJ.out _ rfl).mono ?_
      rintro e w' ⟨rfl, hb⟩
      go_wp2_with fail
      go_ret
      exact ⟨rfl, Below.step hb HB.out HB.out.size⟩
end Go.Proofs.YtjipfgadamokaaaGreatDoor
