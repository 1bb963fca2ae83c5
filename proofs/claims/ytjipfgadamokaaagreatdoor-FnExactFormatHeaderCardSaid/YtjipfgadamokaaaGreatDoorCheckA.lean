/- MADE BY PROGRAM (gencheck.py). IsVariable, Arity; the checks of the reference. -/
import Derived.Test.YtjipfgadamokaaaGreatDoorOwnW
import Derived.Test.YtjipfgadamokaaaGreatDoorMgC
set_option linter.unusedVariables false
set_option linter.unusedSimpArgs false
namespace Go.Proofs.YtjipfgadamokaaaGreatDoor
open Go.RowKit Go.Lib
set_option maxRecDepth 100000
set_option maxHeartbeats 4000000 in
theorem S_Arity (l : List UInt8) (w : World) :
    Calls Tryz.prog 71 #[str l] w fun e w' => e = .returned (.int .i64 (arityF l)) ∧ w = w' := by
  go_enter Tryz.func71, Tryz.ntmps71
  go_wp2_with fail
  all_goals
    go_ret
    exact ⟨ret_int (by simp only [beq_iff_eq, beq_eq_false_iff_ne] at *; unfold arityF; simp_all), rfl⟩
set_option maxHeartbeats 4000000 in
theorem I_Arity (l : List UInt8) (w : World) :
    Calls Tryz.prog 138 #[str l] w fun e w' => e = .returned (.int .i64 (arityF l)) ∧ w = w' := by
  go_enter Tryz.func138, Tryz.ntmps138
  go_wp2_with fail
  all_goals
    go_ret
    exact ⟨ret_int (by simp only [beq_iff_eq, beq_eq_false_iff_ne] at *; unfold arityF; simp_all), rfl⟩
theorem I_Arity_is {l : List UInt8} {n : Int} (h : arityF l = n) (w : World) : Calls Tryz.prog 138 #[str l] w fun e w' => e = .returned (.int .i64 n) ∧ w = w' := by subst h; exact I_Arity l w
theorem S_Arity_is {l : List UInt8} {n : Int} (h : arityF l = n) (w : World) : Calls Tryz.prog 71 #[str l] w fun e w' => e = .returned (.int .i64 n) ∧ w = w' := by subst h; exact S_Arity l w
set_option maxHeartbeats 4000000 in
theorem I_IsVariable (l : List UInt8) (w : World) :
    Calls Tryz.prog 116 #[str l] w fun e w' => e = .returned (.bool (isVar l)) ∧ w = w' := by
  go_enter Tryz.func116, Tryz.ntmps116
  go_wp2_with fail
  all_goals
    go_ret
    exact ⟨ret_bool (by simp only [beq_iff_eq, beq_eq_false_iff_ne] at *; unfold isVar; simp_all), rfl⟩
theorem I_IsVariable_is {l : List UInt8} {b : Bool} (h : isVar l = b) (w : World) : Calls Tryz.prog 116 #[str l] w fun e w' => e = .returned (.bool b) ∧ w = w' := by subst h; exact I_IsVariable l w
abbrev varL : List (List UInt8) := [[117], [118], [120], [121], [122], [116]]
theorem isVar_any (l : List UInt8) : isVar l = varL.any (· == l) := by
  unfold isVar
  rw [Bool.eq_iff_iff]
  simp only [decide_eq_true_eq, List.any_cons, List.any_nil, Bool.or_false, Bool.or_eq_true, beq_iff_eq]
  constructor
  · intro h; rcases h with h | h | h | h | h | h <;> subst h <;> simp
  · intro h; rcases h with h | h | h | h | h | h <;> subst h <;> simp
set_option maxHeartbeats 4000000 in
theorem S_IsVariable (l : List UInt8) (w : World) :
    Calls Tryz.prog 72 #[str l] w fun e w' => e = .returned (.bool (isVar l)) ∧ Below w.heap.size w w' := by
  have HG0 : Hid (Own (w.alloc (.cells #[.string ⟨#[117]⟩, .string ⟨#[118]⟩, .string ⟨#[120]⟩, .string ⟨#[121]⟩, .string ⟨#[122]⟩, .string ⟨#[116]⟩] 9)) w.heap.size 9 (strs varL)) := Lib.hid (Own.new w _ #[_, _, _, _, _, _])
  go_enter Tryz.func72, Tryz.ntmps72
  go_wp2_with fail
  go_loop [4, 7] (fun _ i => ∃ k : Nat, k ≤ varL.length ∧ i = .int .i64 k ∧ (varL.take k).any (· == l) = false) (fun _ i => 6 - (RowKit.intOf i).toNat)
  case atStart => exact ⟨0, Nat.zero_le _, rfl, rfl⟩
  case round =>
    obtain ⟨k, hk, rfl, ha⟩ := hrel
    have HA := Lib.hid ha
    clear ha
    by_cases hlt : k < varL.length
    · have HSU : Hid ((varL.take (k + 1)).any (· == l) = ((varL.take k).any (· == l) || (varL[k] == l))) := Lib.hid (by rw [List.take_succ_eq_append_getElem hlt, List.any_append]; simp)
      have HMM : Hid (varL[k] == l → varL.any (· == l) = true) := Lib.hid (fun h => List.any_eq_true.2 ⟨_, List.getElem_mem hlt, h⟩)
      have c1 := HG0.out.cell k
      rw [strs_at hlt] at c1
      generalize varL[k] = x at *
      have i1 : (k : Int) < 6 := by have : k < 6 := hlt; omega
      have i2 : (0 : Int) ≤ k := by omega
      cases he : x == l with
      | true =>
        have HF : Hid (isVar l = true) := Lib.hid (by rw [isVar_any]; exact HMM.out he)
        go_wp2_with fail
        go_ret
        exact ⟨ret_bool HF.out.symm, (by repeat (first | (with_reducible exact Below.refl _ _) | (with_reducible assumption) | ((with_reducible refine Below.alloc ?_ ?_ _); rotate_left; (first | omega | (simp <;> omega))) | ((with_reducible refine Below.setCell ?_ ?_ _); rotate_left; (first | omega | (simp <;> omega))) | (with_reducible refine below_drewN ?_ _) | (with_reducible refine Below.drew ?_) | ((with_reducible refine Below.step (by assumption) ?_ ?_); rotate_left; (first | omega | (simp <;> omega)))))⟩
      | false =>
        have HK : Hid ((varL.take (k + 1)).any (· == l) = false) := Lib.hid (by rw [HSU.out, HA.out, he]; rfl)
        go_wp2_with fail
        go_round
        case rel => exact ⟨k + 1, hlt, by go_num, HK.out⟩
        case measure => simp [RowKit.intOf]; omega
    · obtain rfl : k = 6 := by have : varL.length = 6 := rfl; omega
      have HF : Hid (isVar l = false) := Lib.hid (by rw [isVar_any]; exact HA.out)
      go_wp2_with fail
      go_ret
      exact ⟨ret_bool HF.out.symm, (by repeat (first | (with_reducible exact Below.refl _ _) | (with_reducible assumption) | ((with_reducible refine Below.alloc ?_ ?_ _); rotate_left; (first | omega | (simp <;> omega))) | ((with_reducible refine Below.setCell ?_ ?_ _); rotate_left; (first | omega | (simp <;> omega))) | (with_reducible refine below_drewN ?_ _) | (with_reducible refine Below.drew ?_) | ((with_reducible refine Below.step (by assumption) ?_ ?_); rotate_left; (first | omega | (simp <;> omega)))))⟩
set_option maxHeartbeats 8000000 in
theorem S_l14Assigned {A A2 : Option Addr} {c c2 : Nat} {p : EProg} {name : List UInt8} {before : Int} (w : World) (h : AssignsIn w A2 c2 p.2) (h2 : p.2.length ≤ 60) :
    Calls Tryz.prog 73 #[vProg A p.1.length c A2 p.2.length c2, str name, .int .i64 before] w fun e w' => e = .returned (.int .i64 (lastTo p name before p.2.length)) ∧ Below w.heap.size w w' := by
  have H0 := Lib.hid h
  clear h
  go_enter Tryz.func73, Tryz.ntmps73
  go_wp2_with fail
  go_loopw [7, 8, 9, 13] (fun v _ _ i wr => ∃ j : Nat, j ≤ p.2.length ∧ i = .int .i64 j ∧ v = .int .i64 (lastTo p name before j) ∧ Below w.heap.size w wr) (fun _ _ _ i _ => p.2.length - (RowKit.intOf i).toNat)
  case atStart => exact ⟨0, Nat.zero_le _, rfl, rfl, (by repeat (first | (with_reducible exact Below.refl _ _) | (with_reducible assumption) | ((with_reducible refine Below.alloc ?_ ?_ _); rotate_left; (first | omega | (simp <;> omega))) | ((with_reducible refine Below.setCell ?_ ?_ _); rotate_left; (first | omega | (simp <;> omega))) | (with_reducible refine below_drewN ?_ _) | (with_reducible refine Below.drew ?_) | ((with_reducible refine Below.step (by assumption) ?_ ?_); rotate_left; (first | omega | (simp <;> omega)))))⟩
  case round =>
    obtain ⟨j, hj, rfl, rfl, hb⟩ := hrel
    obtain ⟨wi, rfl⟩ : ∃ wi, wi = wr := ⟨_, rfl⟩
    have hz := hb.size
    have HB := Lib.hid hb
    by_cases hlj : j < p.2.length
    · obtain ⟨b, o, rfl, hbh, hs, x0, x1⟩ := H0.out.2.2 j hlj
      have d0 := (HB.out.cell (p := ⟨b, o + j * 2, none⟩) hbh).trans x0
      have d1 := (HB.out.cell (p := ⟨b, o + j * 2 + 1, none⟩) hbh).trans x1
      have HLS := Lib.hid (lastTo_succ (name := name) (before := before) hlj)
      obtain ⟨⟨nm, rt⟩, hx⟩ : ∃ x, p.2[j] = x := ⟨_, rfl⟩
      rw [hx] at d0 d1 hs HLS
      (try dsimp only at d0 d1 hs)
      have i1 : (j : Int) < p.2.length := by omega
      have i2 : (0 : Int) ≤ j := by omega
      generalize lastTo p name before j = lv at *
      clear x0 x1 hs hx hb
      by_cases hbf : (j : Int) < before
      · cases hn : nm == name with
        | true =>
          have HK : Hid (lastTo p name before (j + 1) = j) := Lib.hid (by rw [HLS.out, if_pos ⟨hbf, by simpa using hn⟩])
          go_wp2_with fail
          go_roundw
          case rel => exact ⟨j + 1, by omega, by go_num, by rw [HK.out], (by repeat (first | (with_reducible exact Below.refl _ _) | (with_reducible exact HB.out) | (with_reducible assumption) | ((with_reducible refine Below.alloc ?_ ?_ _); rotate_left; (first | omega | (simp <;> omega))) | ((with_reducible refine Below.setCell ?_ ?_ _); rotate_left; (first | omega | (simp <;> omega))) | (with_reducible refine below_drewN ?_ _) | (with_reducible refine Below.drew ?_) | ((with_reducible refine Below.step (by assumption) ?_ ?_); rotate_left; (first | omega | (simp <;> omega)))))⟩
          case measure => simp [RowKit.intOf]; omega
        | false =>
          have HK : Hid (lastTo p name before (j + 1) = lv) := Lib.hid (by rw [HLS.out, if_neg (fun hh => by rw [beq_eq_false_iff_ne] at hn; exact hn hh.2)])
          go_wp2_with fail
          go_roundw
          case rel => exact ⟨j + 1, by omega, by go_num, by rw [HK.out], (by repeat (first | (with_reducible exact Below.refl _ _) | (with_reducible exact HB.out) | (with_reducible assumption) | ((with_reducible refine Below.alloc ?_ ?_ _); rotate_left; (first | omega | (simp <;> omega))) | ((with_reducible refine Below.setCell ?_ ?_ _); rotate_left; (first | omega | (simp <;> omega))) | (with_reducible refine below_drewN ?_ _) | (with_reducible refine Below.drew ?_) | ((with_reducible refine Below.step (by assumption) ?_ ?_); rotate_left; (first | omega | (simp <;> omega)))))⟩
          case measure => simp [RowKit.intOf]; omega
      · have HK : Hid (lastTo p name before (j + 1) = lv) := Lib.hid (by rw [HLS.out, if_neg (fun hh => hbf hh.1)])
        go_wp2_with fail
        go_roundw
        case rel => exact ⟨j + 1, by omega, by go_num, by rw [HK.out], (by repeat (first | (with_reducible exact Below.refl _ _) | (with_reducible exact HB.out) | (with_reducible assumption) | ((with_reducible refine Below.alloc ?_ ?_ _); rotate_left; (first | omega | (simp <;> omega))) | ((with_reducible refine Below.setCell ?_ ?_ _); rotate_left; (first | omega | (simp <;> omega))) | (with_reducible refine below_drewN ?_ _) | (with_reducible refine Below.drew ?_) | ((with_reducible refine Below.step (by assumption) ?_ ?_); rotate_left; (first | omega | (simp <;> omega)))))⟩
        case measure => simp [RowKit.intOf]; omega
    · obtain rfl : j = p.2.length := by omega
      go_wp2_with fail
      go_ret
      exact ⟨rfl, HB.out⟩
theorem last_has (p : EProg) (name : List UInt8) (before : Int) : decide (0 ≤ lastTo p name before p.2.length) = has p name before := by
  unfold has
  rw [Bool.eq_iff_iff, decide_eq_true_eq]
  exact lastTo_has (Nat.le_refl _)
theorem namesTo_no {p : EProg} {k : Nat} (hk : k < p.1.length) (h : nameOk p k p.1[k] = false) : namesTo p p.1.length = false := by
  unfold namesTo
  rw [List.take_length, List.all_eq_false]
  exact ⟨(p.1[k], k), List.mk_mem_zipIdx_iff_getElem?.2 (List.getElem?_eq_getElem hk), by simp [h]⟩
theorem aritiesTo_no {p : EProg} {k : Nat} (hk : k < p.1.length) (h : arityOk p.1[k] = false) : aritiesTo p p.1.length = false := by
  unfold aritiesTo
  rw [List.take_length, List.all_eq_false]
  exact ⟨p.1[k], List.getElem_mem hk, by simp [h]⟩
theorem asssTo_no {p : EProg} {k : Nat} (hk : k < p.2.length) (h : assOk p k p.2[k] = false) : asssTo p p.2.length = false := by
  unfold asssTo
  rw [List.take_length, List.all_eq_false]
  exact ⟨(p.2[k], k), List.mk_mem_zipIdx_iff_getElem?.2 (List.getElem?_eq_getElem hk), by simp [h]⟩
theorem ownP_len {p : EProg} : (ownP p).length = p.1.length := by unfold ownP ownS; rw [downTo_len, rootsTo_len, gOfP_len]
theorem nameOk2 (p : EProg) (k : Nat) (name : List UInt8) (num : Int) (l : List Int) : nameOk p k (2, name, num, l) = (isVar name || has p name ((ownP p).getD k 0)) := rfl
theorem nameOk8 (p : EProg) (k : Nat) (name : List UInt8) (num : Int) (l : List Int) : nameOk p k (8, name, num, l) = decide (0 ≤ arityF name) := rfl
theorem nameOk0 {p : EProg} {k : Nat} {op : Int} {name : List UInt8} {num : Int} {l : List Int} (h2 : op ≠ 2) (h8 : op ≠ 8) : nameOk p k (op, name, num, l) = true := by unfold nameOk; rw [if_neg h2, if_neg h8]
theorem arityOk8 (name : List UInt8) (num : Int) (l : List Int) : arityOk (8, name, num, l) = decide (arityF name = l.length) := rfl
theorem arityOk0 {op : Int} {name : List UInt8} {num : Int} {l : List Int} (h8 : op ≠ 8) : arityOk (op, name, num, l) = true := by unfold arityOk; rw [if_neg h8]
theorem op3_cases (op : Int) : op = 2 ∨ op = 8 ∨ (op ≠ 2 ∧ op ≠ 8) := by omega
end Go.Proofs.YtjipfgadamokaaaGreatDoor
