/- MADE BY PROGRAM (gennode.py). A node's fields: l13Node of the reference, validNode of the program. -/
import Derived.Test.YtnlbojckobgjpaaGreatDoorProgA
import Derived.Test.YtnlbojckobgjpaaGreatDoorIdn
import Derived.Test.YtnlbojckobgjpaaGreatDoorMgC
import Derived.Test.YtnlbojckobgjpaaGreatDoorMgD
import Derived.BigQuiet
import Derived.Deep.QuietTactic
import Derived.Deep.RegionHeld3
set_option linter.unusedVariables false
set_option linter.unusedSimpArgs false
namespace Go.Proofs.YtnlbojckobgjpaaGreatDoor
open Go.RowKit Go.Lib
set_option maxRecDepth 100000
theorem op_cases (op : Int) : op = 1 ∨ op = 2 ∨ op = 8 ∨ op = 3 ∨ op = 4 ∨ op = 5 ∨ op = 6 ∨ op = 7 ∨ (op < 1 ∨ 8 < op) := by omega
theorem emp_cases (l : List UInt8) : (l = [] ∧ l.isEmpty = true) ∨ (l ≠ [] ∧ l.isEmpty = false) := by cases l <;> simp
/-- The fields of a node. -/
theorem fld (op : Int) (name : List UInt8) (num : Int) (l : List Int) : okFields (op, name, num, l) = ((if namedOp op then isIdent name else decide (name = [])) && (if op = 1 then inB num 0 2559999 else decide (num = 0)) && okShape op l.length) := rfl
theorem sh1 (n : Nat) : okShape 1 n = decide (n = 0) := by simp [okShape]
theorem sh2 (n : Nat) : okShape 2 n = decide (n = 0) := by simp [okShape]
theorem sh3 (n : Nat) : okShape 3 n = decide (n = 1) := by simp [okShape]
theorem sh4 (n : Nat) : okShape 4 n = decide (n = 2) := by simp [okShape]
theorem sh5 (n : Nat) : okShape 5 n = decide (n = 2) := by simp [okShape]
theorem sh6 (n : Nat) : okShape 6 n = decide (n = 2) := by simp [okShape]
theorem sh7 (n : Nat) : okShape 7 n = decide (n = 2) := by simp [okShape]
theorem sh8 (n : Nat) : okShape 8 n = decide (n ≤ 3) := by simp [okShape]
theorem sh9 {op : Int} (h : op < 1 ∨ 8 < op) (n : Nat) : okShape op n = false := by
  unfold okShape
  rw [if_neg (by omega), if_neg (by omega), if_neg (by omega), if_neg (by omega)]
theorem nm9 {op : Int} (h : op < 1 ∨ 8 < op) : namedOp op = false := by unfold namedOp; simp; omega
theorem beq_cast (a b : Nat) : ((a : Int) == (b : Int)) = decide (a = b) := by rw [Bool.eq_iff_iff]; simp; omega
theorem len_is {n : Nat} (m : Nat) : decide (n = m) = ((n : Int) == (m : Int)) := (beq_cast n m).symm
theorem len_le {n : Nat} (m : Nat) : decide (n ≤ m) = decide ((n : Int) ≤ (m : Int)) := by rw [Bool.eq_iff_iff]; simp
theorem okNode_eq (k : Nat) (op : Int) (name : List UInt8) (num : Int) (l : List Int) : okNode k (op, name, num, l) = (okFields (op, name, num, l) && argsOk k l) := rfl
theorem argsOk_all {k : Nat} {l : List Int} : argsOk k l = allIn l 0 ((k : Int) - 1) := rfl
abbrev vNode (op : Int) (name : List UInt8) (num : Int) (A : Option Addr) (n c : Nat) : Value := .agg #[.int .i64 op, str name, .int .i64 num, .slice A n c]

set_option maxHeartbeats 8000000 in
theorem S_l13Node {op : Int} {name : List UInt8} {num : Int} {A : Option Addr} {c : Nat} {l : List Int} {k : Nat} (w : World) (hk : k ≤ 1048576) (hs : name.length ≤ maxLen) (h : RS w 1 A l.length c (ints l)) :
    Calls Tryz.prog 96 #[vNode op name num A l.length c, .int .i64 k] w fun e w' => e = .returned (.bool (okNode k (op, name, num, l))) ∧ Below w.heap.size w w' := by
  have H0 := Lib.hid h
  have HS := Lib.hid hs
  have hll := h.len
  unfold maxLen at hll
  clear h hs
  have hk1 : IntKind.i64.wrap ((k : Int) - 1) = (k : Int) - 1 := IntWalk.i64_in _ (by omega)
  have HB0 : Hid (Below w.heap.size w (w.alloc (.cells #[.int .i64 op, str name, .int .i64 num, .slice A l.length c] 70))) := Lib.hid (by repeat (first | (with_reducible exact Below.refl _ _) | (with_reducible assumption) | ((with_reducible refine Below.alloc ?_ ?_ _); rotate_left; (first | omega | (simp <;> omega))) | ((with_reducible refine Below.setCell ?_ ?_ _); rotate_left; (first | omega | (simp <;> omega))) | (with_reducible refine below_drewN ?_ _) | (with_reducible refine Below.drew ?_) | ((with_reducible refine Below.step (by assumption) ?_ ?_); rotate_left; (first | omega | (simp <;> omega)))))
  go_enter Tryz.func96, Tryz.ntmps96
  go_wp2_with fail
  go_loop [6, 11] (fun _ i => ∃ j : Nat, j ≤ l.length ∧ i = .int .i64 j ∧ allIn (l.take j) 0 ((k : Int) - 1) = true) (fun _ i => l.length - (RowKit.intOf i).toNat)
  case atStart => exact ⟨0, Nat.zero_le _, rfl, rfl⟩
  case round =>
    obtain ⟨j, hj, rfl, ht⟩ := hrel
    have HT := Lib.hid ht
    clear ht
    by_cases hlt : j < l.length
    · obtain ⟨b, o, rfl, hbh, hcell⟩ := H0.out.open_.2.2 (by omega)
      have c1 : w.cell? ⟨b, o + j, none⟩ = some (.int .i64 l[j]) := by rw [hcell j (by omega), ints_at hlt]
      have nb : ¬ b = w.heap.size := by omega
      have i2 : (j : Int) < l.length := by omega
      clear hcell
      cases hin : inB l[j] 0 ((k : Int) - 1) with
      | true =>
        have HK := Lib.hid (allIn_take HT.out hlt hin)
        generalize hx : l[j] = x at *
        go_wp2_with (first | (go_at_call 98; refine (S_in_is hin _).mono ?_; rintro e w' ⟨rfl, rfl⟩) | fail)
        go_round
        case rel => exact ⟨j + 1, by omega, by go_num, HK.out⟩
        case measure => simp [RowKit.intOf]; omega
      | false =>
        have HF : Hid (okNode k (op, name, num, l) = false) := Lib.hid (by rw [okNode_eq, argsOk_all, allIn_false hlt hin]; simp)
        generalize hx : l[j] = x at *
        go_wp2_with (first | (go_at_call 98; refine (S_in_is hin _).mono ?_; rintro e w' ⟨rfl, rfl⟩) | fail)
        go_ret
        exact ⟨ret_bool HF.out.symm, HB0.out⟩
    · obtain rfl : j = l.length := by omega
      have HA : Hid (okNode k (op, name, num, l) = okFields (op, name, num, l)) := Lib.hid (by rw [okNode_eq, argsOk_all]; have := HT.out; rw [List.take_length] at this; rw [this]; simp)
      have hlt' : ¬ (l.length : Int) < l.length := by omega
      clear HT hk1 hj hlt
      rcases op_cases op with rfl | rfl | rfl | rfl | rfl | rfl | rfl | rfl | h9
      · -- 1
        rcases emp_cases name with ⟨rfl, hem⟩ | ⟨hne, hem⟩
        rotate_left
        ·
          go_wp2_with ((first | (go_at_call 98; refine (S_in_is hn _).mono ?_; rintro e w' ⟨rfl, rfl⟩) | fail))
          (try (go_quiet ((first | (go_at_call 98; exact quiet_same (S_in_is hn _)) | fail)); go_wp2_with ((first | (go_at_call 98; refine (S_in_is hn _).mono ?_; rintro e w' ⟨rfl, rfl⟩) | fail))))
          (try (go_quiet ((first | (go_at_call 98; exact quiet_same (S_in_is hn _)) | fail)); go_wp2_with ((first | (go_at_call 98; refine (S_in_is hn _).mono ?_; rintro e w' ⟨rfl, rfl⟩) | fail))))
          go_ret
          exact ⟨ret_bool (by rw [HA.out, fld]; simp [namedOp, hne]), (by repeat (first | (with_reducible exact Below.refl _ _) | (with_reducible assumption) | ((with_reducible refine Below.alloc ?_ ?_ _); rotate_left; (first | omega | (simp <;> omega))) | ((with_reducible refine Below.setCell ?_ ?_ _); rotate_left; (first | omega | (simp <;> omega))) | (with_reducible refine below_drewN ?_ _) | (with_reducible refine Below.drew ?_) | ((with_reducible refine Below.step (by assumption) ?_ ?_); rotate_left; (first | omega | (simp <;> omega)))))⟩
        cases hn : inB num 0 2559999 with
        | false =>
          go_wp2_with ((first | (go_at_call 98; refine (S_in_is hn _).mono ?_; rintro e w' ⟨rfl, rfl⟩) | fail))
          (try (go_quiet ((first | (go_at_call 98; exact quiet_same (S_in_is hn _)) | fail)); go_wp2_with ((first | (go_at_call 98; refine (S_in_is hn _).mono ?_; rintro e w' ⟨rfl, rfl⟩) | fail))))
          (try (go_quiet ((first | (go_at_call 98; exact quiet_same (S_in_is hn _)) | fail)); go_wp2_with ((first | (go_at_call 98; refine (S_in_is hn _).mono ?_; rintro e w' ⟨rfl, rfl⟩) | fail))))
          go_ret
          exact ⟨ret_bool (by rw [HA.out, fld]; simp [namedOp, hn]), (by repeat (first | (with_reducible exact Below.refl _ _) | (with_reducible assumption) | ((with_reducible refine Below.alloc ?_ ?_ _); rotate_left; (first | omega | (simp <;> omega))) | ((with_reducible refine Below.setCell ?_ ?_ _); rotate_left; (first | omega | (simp <;> omega))) | (with_reducible refine below_drewN ?_ _) | (with_reducible refine Below.drew ?_) | ((with_reducible refine Below.step (by assumption) ?_ ?_); rotate_left; (first | omega | (simp <;> omega)))))⟩
        | true =>
          go_wp2_with ((first | (go_at_call 98; refine (S_in_is hn _).mono ?_; rintro e w' ⟨rfl, rfl⟩) | fail))
          (try (go_quiet ((first | (go_at_call 98; exact quiet_same (S_in_is hn _)) | fail)); go_wp2_with ((first | (go_at_call 98; refine (S_in_is hn _).mono ?_; rintro e w' ⟨rfl, rfl⟩) | fail))))
          (try (go_quiet ((first | (go_at_call 98; exact quiet_same (S_in_is hn _)) | fail)); go_wp2_with ((first | (go_at_call 98; refine (S_in_is hn _).mono ?_; rintro e w' ⟨rfl, rfl⟩) | fail))))
          go_ret
          exact ⟨ret_bool (by rw [HA.out, fld, sh1, len_is 0]; simp [namedOp, hn]), (by repeat (first | (with_reducible exact Below.refl _ _) | (with_reducible assumption) | ((with_reducible refine Below.alloc ?_ ?_ _); rotate_left; (first | omega | (simp <;> omega))) | ((with_reducible refine Below.setCell ?_ ?_ _); rotate_left; (first | omega | (simp <;> omega))) | (with_reducible refine below_drewN ?_ _) | (with_reducible refine Below.drew ?_) | ((with_reducible refine Below.step (by assumption) ?_ ?_); rotate_left; (first | omega | (simp <;> omega)))))⟩
      · -- 2
        cases hq : isIdent name with
        | false =>
          have HQ : Hid (∀ wx, Calls Tryz.prog 97 #[str name] wx fun e w' => e = .returned (.bool false) ∧ wx = w') := Lib.hid (fun wx => by have := S_IsIdentifier (l := name) wx HS.out; rw [hq] at this; exact this)
          go_wp2_with ((first | (go_at_call 97; refine (HQ.out _).mono ?_; rintro e w' ⟨rfl, rfl⟩) | fail))
          (try (go_quiet ((first | (go_at_call 97; exact quiet_same (HQ.out _)) | fail)); go_wp2_with ((first | (go_at_call 97; refine (HQ.out _).mono ?_; rintro e w' ⟨rfl, rfl⟩) | fail))))
          (try (go_quiet ((first | (go_at_call 97; exact quiet_same (HQ.out _)) | fail)); go_wp2_with ((first | (go_at_call 97; refine (HQ.out _).mono ?_; rintro e w' ⟨rfl, rfl⟩) | fail))))
          go_ret
          exact ⟨ret_bool (by rw [HA.out, fld]; simp [namedOp, hq]), (by repeat (first | (with_reducible exact Below.refl _ _) | (with_reducible assumption) | ((with_reducible refine Below.alloc ?_ ?_ _); rotate_left; (first | omega | (simp <;> omega))) | ((with_reducible refine Below.setCell ?_ ?_ _); rotate_left; (first | omega | (simp <;> omega))) | (with_reducible refine below_drewN ?_ _) | (with_reducible refine Below.drew ?_) | ((with_reducible refine Below.step (by assumption) ?_ ?_); rotate_left; (first | omega | (simp <;> omega)))))⟩
        | true =>
          have HQ : Hid (∀ wx, Calls Tryz.prog 97 #[str name] wx fun e w' => e = .returned (.bool true) ∧ wx = w') := Lib.hid (fun wx => by have := S_IsIdentifier (l := name) wx HS.out; rw [hq] at this; exact this)
          by_cases hn : num = 0
          rotate_left
          ·
            have hnb : (num == 0) = false := by simpa using hn
            go_wp2_with ((first | (go_at_call 97; refine (HQ.out _).mono ?_; rintro e w' ⟨rfl, rfl⟩) | fail))
            (try (go_quiet ((first | (go_at_call 97; exact quiet_same (HQ.out _)) | fail)); go_wp2_with ((first | (go_at_call 97; refine (HQ.out _).mono ?_; rintro e w' ⟨rfl, rfl⟩) | fail))))
            (try (go_quiet ((first | (go_at_call 97; exact quiet_same (HQ.out _)) | fail)); go_wp2_with ((first | (go_at_call 97; refine (HQ.out _).mono ?_; rintro e w' ⟨rfl, rfl⟩) | fail))))
            go_ret
            exact ⟨ret_bool (by rw [HA.out, fld]; simp [namedOp, hn]), (by repeat (first | (with_reducible exact Below.refl _ _) | (with_reducible assumption) | ((with_reducible refine Below.alloc ?_ ?_ _); rotate_left; (first | omega | (simp <;> omega))) | ((with_reducible refine Below.setCell ?_ ?_ _); rotate_left; (first | omega | (simp <;> omega))) | (with_reducible refine below_drewN ?_ _) | (with_reducible refine Below.drew ?_) | ((with_reducible refine Below.step (by assumption) ?_ ?_); rotate_left; (first | omega | (simp <;> omega)))))⟩
          subst hn
          go_wp2_with ((first | (go_at_call 97; refine (HQ.out _).mono ?_; rintro e w' ⟨rfl, rfl⟩) | fail))
          (try (go_quiet ((first | (go_at_call 97; exact quiet_same (HQ.out _)) | fail)); go_wp2_with ((first | (go_at_call 97; refine (HQ.out _).mono ?_; rintro e w' ⟨rfl, rfl⟩) | fail))))
          (try (go_quiet ((first | (go_at_call 97; exact quiet_same (HQ.out _)) | fail)); go_wp2_with ((first | (go_at_call 97; refine (HQ.out _).mono ?_; rintro e w' ⟨rfl, rfl⟩) | fail))))
          go_ret
          exact ⟨ret_bool (by rw [HA.out, fld, sh2, len_is 0]; simp [namedOp, hq]), (by repeat (first | (with_reducible exact Below.refl _ _) | (with_reducible assumption) | ((with_reducible refine Below.alloc ?_ ?_ _); rotate_left; (first | omega | (simp <;> omega))) | ((with_reducible refine Below.setCell ?_ ?_ _); rotate_left; (first | omega | (simp <;> omega))) | (with_reducible refine below_drewN ?_ _) | (with_reducible refine Below.drew ?_) | ((with_reducible refine Below.step (by assumption) ?_ ?_); rotate_left; (first | omega | (simp <;> omega)))))⟩
      · -- 8
        cases hq : isIdent name with
        | false =>
          have HQ : Hid (∀ wx, Calls Tryz.prog 97 #[str name] wx fun e w' => e = .returned (.bool false) ∧ wx = w') := Lib.hid (fun wx => by have := S_IsIdentifier (l := name) wx HS.out; rw [hq] at this; exact this)
          go_wp2_with ((first | (go_at_call 97; refine (HQ.out _).mono ?_; rintro e w' ⟨rfl, rfl⟩) | fail))
          (try (go_quiet ((first | (go_at_call 97; exact quiet_same (HQ.out _)) | fail)); go_wp2_with ((first | (go_at_call 97; refine (HQ.out _).mono ?_; rintro e w' ⟨rfl, rfl⟩) | fail))))
          (try (go_quiet ((first | (go_at_call 97; exact quiet_same (HQ.out _)) | fail)); go_wp2_with ((first | (go_at_call 97; refine (HQ.out _).mono ?_; rintro e w' ⟨rfl, rfl⟩) | fail))))
          go_ret
          exact ⟨ret_bool (by rw [HA.out, fld]; simp [namedOp, hq]), (by repeat (first | (with_reducible exact Below.refl _ _) | (with_reducible assumption) | ((with_reducible refine Below.alloc ?_ ?_ _); rotate_left; (first | omega | (simp <;> omega))) | ((with_reducible refine Below.setCell ?_ ?_ _); rotate_left; (first | omega | (simp <;> omega))) | (with_reducible refine below_drewN ?_ _) | (with_reducible refine Below.drew ?_) | ((with_reducible refine Below.step (by assumption) ?_ ?_); rotate_left; (first | omega | (simp <;> omega)))))⟩
        | true =>
          have HQ : Hid (∀ wx, Calls Tryz.prog 97 #[str name] wx fun e w' => e = .returned (.bool true) ∧ wx = w') := Lib.hid (fun wx => by have := S_IsIdentifier (l := name) wx HS.out; rw [hq] at this; exact this)
          by_cases hn : num = 0
          rotate_left
          ·
            have hnb : (num == 0) = false := by simpa using hn
            go_wp2_with ((first | (go_at_call 97; refine (HQ.out _).mono ?_; rintro e w' ⟨rfl, rfl⟩) | fail))
            (try (go_quiet ((first | (go_at_call 97; exact quiet_same (HQ.out _)) | fail)); go_wp2_with ((first | (go_at_call 97; refine (HQ.out _).mono ?_; rintro e w' ⟨rfl, rfl⟩) | fail))))
            (try (go_quiet ((first | (go_at_call 97; exact quiet_same (HQ.out _)) | fail)); go_wp2_with ((first | (go_at_call 97; refine (HQ.out _).mono ?_; rintro e w' ⟨rfl, rfl⟩) | fail))))
            go_ret
            exact ⟨ret_bool (by rw [HA.out, fld]; simp [namedOp, hn]), (by repeat (first | (with_reducible exact Below.refl _ _) | (with_reducible assumption) | ((with_reducible refine Below.alloc ?_ ?_ _); rotate_left; (first | omega | (simp <;> omega))) | ((with_reducible refine Below.setCell ?_ ?_ _); rotate_left; (first | omega | (simp <;> omega))) | (with_reducible refine below_drewN ?_ _) | (with_reducible refine Below.drew ?_) | ((with_reducible refine Below.step (by assumption) ?_ ?_); rotate_left; (first | omega | (simp <;> omega)))))⟩
          subst hn
          go_wp2_with ((first | (go_at_call 97; refine (HQ.out _).mono ?_; rintro e w' ⟨rfl, rfl⟩) | fail))
          (try (go_quiet ((first | (go_at_call 97; exact quiet_same (HQ.out _)) | fail)); go_wp2_with ((first | (go_at_call 97; refine (HQ.out _).mono ?_; rintro e w' ⟨rfl, rfl⟩) | fail))))
          (try (go_quiet ((first | (go_at_call 97; exact quiet_same (HQ.out _)) | fail)); go_wp2_with ((first | (go_at_call 97; refine (HQ.out _).mono ?_; rintro e w' ⟨rfl, rfl⟩) | fail))))
          go_ret
          exact ⟨ret_bool (by rw [HA.out, fld, sh8, len_le 3]; simp [namedOp, hq]), (by repeat (first | (with_reducible exact Below.refl _ _) | (with_reducible assumption) | ((with_reducible refine Below.alloc ?_ ?_ _); rotate_left; (first | omega | (simp <;> omega))) | ((with_reducible refine Below.setCell ?_ ?_ _); rotate_left; (first | omega | (simp <;> omega))) | (with_reducible refine below_drewN ?_ _) | (with_reducible refine Below.drew ?_) | ((with_reducible refine Below.step (by assumption) ?_ ?_); rotate_left; (first | omega | (simp <;> omega)))))⟩
      · -- 3
        rcases emp_cases name with ⟨rfl, hem⟩ | ⟨hne, hem⟩
        rotate_left
        ·
          go_wp2_with fail
          (try (go_quiet (fail); go_wp2_with fail))
          (try (go_quiet (fail); go_wp2_with fail))
          go_ret
          exact ⟨ret_bool (by rw [HA.out, fld]; simp [namedOp, hne]), (by repeat (first | (with_reducible exact Below.refl _ _) | (with_reducible assumption) | ((with_reducible refine Below.alloc ?_ ?_ _); rotate_left; (first | omega | (simp <;> omega))) | ((with_reducible refine Below.setCell ?_ ?_ _); rotate_left; (first | omega | (simp <;> omega))) | (with_reducible refine below_drewN ?_ _) | (with_reducible refine Below.drew ?_) | ((with_reducible refine Below.step (by assumption) ?_ ?_); rotate_left; (first | omega | (simp <;> omega)))))⟩
        by_cases hn : num = 0
        rotate_left
        ·
          have hnb : (num == 0) = false := by simpa using hn
          go_wp2_with fail
          (try (go_quiet (fail); go_wp2_with fail))
          (try (go_quiet (fail); go_wp2_with fail))
          go_ret
          exact ⟨ret_bool (by rw [HA.out, fld]; simp [namedOp, hn]), (by repeat (first | (with_reducible exact Below.refl _ _) | (with_reducible assumption) | ((with_reducible refine Below.alloc ?_ ?_ _); rotate_left; (first | omega | (simp <;> omega))) | ((with_reducible refine Below.setCell ?_ ?_ _); rotate_left; (first | omega | (simp <;> omega))) | (with_reducible refine below_drewN ?_ _) | (with_reducible refine Below.drew ?_) | ((with_reducible refine Below.step (by assumption) ?_ ?_); rotate_left; (first | omega | (simp <;> omega)))))⟩
        subst hn
        go_wp2_with fail
        (try (go_quiet (fail); go_wp2_with fail))
        (try (go_quiet (fail); go_wp2_with fail))
        go_ret
        exact ⟨ret_bool (by rw [HA.out, fld, sh3, len_is 1]; simp [namedOp]), (by repeat (first | (with_reducible exact Below.refl _ _) | (with_reducible assumption) | ((with_reducible refine Below.alloc ?_ ?_ _); rotate_left; (first | omega | (simp <;> omega))) | ((with_reducible refine Below.setCell ?_ ?_ _); rotate_left; (first | omega | (simp <;> omega))) | (with_reducible refine below_drewN ?_ _) | (with_reducible refine Below.drew ?_) | ((with_reducible refine Below.step (by assumption) ?_ ?_); rotate_left; (first | omega | (simp <;> omega)))))⟩
      · -- 4
        rcases emp_cases name with ⟨rfl, hem⟩ | ⟨hne, hem⟩
        rotate_left
        ·
          go_wp2_with ((first | (go_at_call 98; refine (S_in_is (show inB 4 4 7 = true from rfl) _).mono ?_; rintro e w' ⟨rfl, rfl⟩) | fail))
          (try (go_quiet ((first | (go_at_call 98; exact quiet_same (S_in_is (show inB 4 4 7 = true from rfl) _)) | fail)); go_wp2_with ((first | (go_at_call 98; refine (S_in_is (show inB 4 4 7 = true from rfl) _).mono ?_; rintro e w' ⟨rfl, rfl⟩) | fail))))
          (try (go_quiet ((first | (go_at_call 98; exact quiet_same (S_in_is (show inB 4 4 7 = true from rfl) _)) | fail)); go_wp2_with ((first | (go_at_call 98; refine (S_in_is (show inB 4 4 7 = true from rfl) _).mono ?_; rintro e w' ⟨rfl, rfl⟩) | fail))))
          go_ret
          exact ⟨ret_bool (by rw [HA.out, fld]; simp [namedOp, hne]), (by repeat (first | (with_reducible exact Below.refl _ _) | (with_reducible assumption) | ((with_reducible refine Below.alloc ?_ ?_ _); rotate_left; (first | omega | (simp <;> omega))) | ((with_reducible refine Below.setCell ?_ ?_ _); rotate_left; (first | omega | (simp <;> omega))) | (with_reducible refine below_drewN ?_ _) | (with_reducible refine Below.drew ?_) | ((with_reducible refine Below.step (by assumption) ?_ ?_); rotate_left; (first | omega | (simp <;> omega)))))⟩
        by_cases hn : num = 0
        rotate_left
        ·
          have hnb : (num == 0) = false := by simpa using hn
          go_wp2_with ((first | (go_at_call 98; refine (S_in_is (show inB 4 4 7 = true from rfl) _).mono ?_; rintro e w' ⟨rfl, rfl⟩) | fail))
          (try (go_quiet ((first | (go_at_call 98; exact quiet_same (S_in_is (show inB 4 4 7 = true from rfl) _)) | fail)); go_wp2_with ((first | (go_at_call 98; refine (S_in_is (show inB 4 4 7 = true from rfl) _).mono ?_; rintro e w' ⟨rfl, rfl⟩) | fail))))
          (try (go_quiet ((first | (go_at_call 98; exact quiet_same (S_in_is (show inB 4 4 7 = true from rfl) _)) | fail)); go_wp2_with ((first | (go_at_call 98; refine (S_in_is (show inB 4 4 7 = true from rfl) _).mono ?_; rintro e w' ⟨rfl, rfl⟩) | fail))))
          go_ret
          exact ⟨ret_bool (by rw [HA.out, fld]; simp [namedOp, hn]), (by repeat (first | (with_reducible exact Below.refl _ _) | (with_reducible assumption) | ((with_reducible refine Below.alloc ?_ ?_ _); rotate_left; (first | omega | (simp <;> omega))) | ((with_reducible refine Below.setCell ?_ ?_ _); rotate_left; (first | omega | (simp <;> omega))) | (with_reducible refine below_drewN ?_ _) | (with_reducible refine Below.drew ?_) | ((with_reducible refine Below.step (by assumption) ?_ ?_); rotate_left; (first | omega | (simp <;> omega)))))⟩
        subst hn
        go_wp2_with ((first | (go_at_call 98; refine (S_in_is (show inB 4 4 7 = true from rfl) _).mono ?_; rintro e w' ⟨rfl, rfl⟩) | fail))
        (try (go_quiet ((first | (go_at_call 98; exact quiet_same (S_in_is (show inB 4 4 7 = true from rfl) _)) | fail)); go_wp2_with ((first | (go_at_call 98; refine (S_in_is (show inB 4 4 7 = true from rfl) _).mono ?_; rintro e w' ⟨rfl, rfl⟩) | fail))))
        (try (go_quiet ((first | (go_at_call 98; exact quiet_same (S_in_is (show inB 4 4 7 = true from rfl) _)) | fail)); go_wp2_with ((first | (go_at_call 98; refine (S_in_is (show inB 4 4 7 = true from rfl) _).mono ?_; rintro e w' ⟨rfl, rfl⟩) | fail))))
        go_ret
        exact ⟨ret_bool (by rw [HA.out, fld, sh4, len_is 2]; simp [namedOp]), (by repeat (first | (with_reducible exact Below.refl _ _) | (with_reducible assumption) | ((with_reducible refine Below.alloc ?_ ?_ _); rotate_left; (first | omega | (simp <;> omega))) | ((with_reducible refine Below.setCell ?_ ?_ _); rotate_left; (first | omega | (simp <;> omega))) | (with_reducible refine below_drewN ?_ _) | (with_reducible refine Below.drew ?_) | ((with_reducible refine Below.step (by assumption) ?_ ?_); rotate_left; (first | omega | (simp <;> omega)))))⟩
      · -- 5
        rcases emp_cases name with ⟨rfl, hem⟩ | ⟨hne, hem⟩
        rotate_left
        ·
          go_wp2_with ((first | (go_at_call 98; refine (S_in_is (show inB 5 4 7 = true from rfl) _).mono ?_; rintro e w' ⟨rfl, rfl⟩) | fail))
          (try (go_quiet ((first | (go_at_call 98; exact quiet_same (S_in_is (show inB 5 4 7 = true from rfl) _)) | fail)); go_wp2_with ((first | (go_at_call 98; refine (S_in_is (show inB 5 4 7 = true from rfl) _).mono ?_; rintro e w' ⟨rfl, rfl⟩) | fail))))
          (try (go_quiet ((first | (go_at_call 98; exact quiet_same (S_in_is (show inB 5 4 7 = true from rfl) _)) | fail)); go_wp2_with ((first | (go_at_call 98; refine (S_in_is (show inB 5 4 7 = true from rfl) _).mono ?_; rintro e w' ⟨rfl, rfl⟩) | fail))))
          go_ret
          exact ⟨ret_bool (by rw [HA.out, fld]; simp [namedOp, hne]), (by repeat (first | (with_reducible exact Below.refl _ _) | (with_reducible assumption) | ((with_reducible refine Below.alloc ?_ ?_ _); rotate_left; (first | omega | (simp <;> omega))) | ((with_reducible refine Below.setCell ?_ ?_ _); rotate_left; (first | omega | (simp <;> omega))) | (with_reducible refine below_drewN ?_ _) | (with_reducible refine Below.drew ?_) | ((with_reducible refine Below.step (by assumption) ?_ ?_); rotate_left; (first | omega | (simp <;> omega)))))⟩
        by_cases hn : num = 0
        rotate_left
        ·
          have hnb : (num == 0) = false := by simpa using hn
          go_wp2_with ((first | (go_at_call 98; refine (S_in_is (show inB 5 4 7 = true from rfl) _).mono ?_; rintro e w' ⟨rfl, rfl⟩) | fail))
          (try (go_quiet ((first | (go_at_call 98; exact quiet_same (S_in_is (show inB 5 4 7 = true from rfl) _)) | fail)); go_wp2_with ((first | (go_at_call 98; refine (S_in_is (show inB 5 4 7 = true from rfl) _).mono ?_; rintro e w' ⟨rfl, rfl⟩) | fail))))
          (try (go_quiet ((first | (go_at_call 98; exact quiet_same (S_in_is (show inB 5 4 7 = true from rfl) _)) | fail)); go_wp2_with ((first | (go_at_call 98; refine (S_in_is (show inB 5 4 7 = true from rfl) _).mono ?_; rintro e w' ⟨rfl, rfl⟩) | fail))))
          go_ret
          exact ⟨ret_bool (by rw [HA.out, fld]; simp [namedOp, hn]), (by repeat (first | (with_reducible exact Below.refl _ _) | (with_reducible assumption) | ((with_reducible refine Below.alloc ?_ ?_ _); rotate_left; (first | omega | (simp <;> omega))) | ((with_reducible refine Below.setCell ?_ ?_ _); rotate_left; (first | omega | (simp <;> omega))) | (with_reducible refine below_drewN ?_ _) | (with_reducible refine Below.drew ?_) | ((with_reducible refine Below.step (by assumption) ?_ ?_); rotate_left; (first | omega | (simp <;> omega)))))⟩
        subst hn
        go_wp2_with ((first | (go_at_call 98; refine (S_in_is (show inB 5 4 7 = true from rfl) _).mono ?_; rintro e w' ⟨rfl, rfl⟩) | fail))
        (try (go_quiet ((first | (go_at_call 98; exact quiet_same (S_in_is (show inB 5 4 7 = true from rfl) _)) | fail)); go_wp2_with ((first | (go_at_call 98; refine (S_in_is (show inB 5 4 7 = true from rfl) _).mono ?_; rintro e w' ⟨rfl, rfl⟩) | fail))))
        (try (go_quiet ((first | (go_at_call 98; exact quiet_same (S_in_is (show inB 5 4 7 = true from rfl) _)) | fail)); go_wp2_with ((first | (go_at_call 98; refine (S_in_is (show inB 5 4 7 = true from rfl) _).mono ?_; rintro e w' ⟨rfl, rfl⟩) | fail))))
        go_ret
        exact ⟨ret_bool (by rw [HA.out, fld, sh5, len_is 2]; simp [namedOp]), (by repeat (first | (with_reducible exact Below.refl _ _) | (with_reducible assumption) | ((with_reducible refine Below.alloc ?_ ?_ _); rotate_left; (first | omega | (simp <;> omega))) | ((with_reducible refine Below.setCell ?_ ?_ _); rotate_left; (first | omega | (simp <;> omega))) | (with_reducible refine below_drewN ?_ _) | (with_reducible refine Below.drew ?_) | ((with_reducible refine Below.step (by assumption) ?_ ?_); rotate_left; (first | omega | (simp <;> omega)))))⟩
      · -- 6
        rcases emp_cases name with ⟨rfl, hem⟩ | ⟨hne, hem⟩
        rotate_left
        ·
          go_wp2_with ((first | (go_at_call 98; refine (S_in_is (show inB 6 4 7 = true from rfl) _).mono ?_; rintro e w' ⟨rfl, rfl⟩) | fail))
          (try (go_quiet ((first | (go_at_call 98; exact quiet_same (S_in_is (show inB 6 4 7 = true from rfl) _)) | fail)); go_wp2_with ((first | (go_at_call 98; refine (S_in_is (show inB 6 4 7 = true from rfl) _).mono ?_; rintro e w' ⟨rfl, rfl⟩) | fail))))
          (try (go_quiet ((first | (go_at_call 98; exact quiet_same (S_in_is (show inB 6 4 7 = true from rfl) _)) | fail)); go_wp2_with ((first | (go_at_call 98; refine (S_in_is (show inB 6 4 7 = true from rfl) _).mono ?_; rintro e w' ⟨rfl, rfl⟩) | fail))))
          go_ret
          exact ⟨ret_bool (by rw [HA.out, fld]; simp [namedOp, hne]), (by repeat (first | (with_reducible exact Below.refl _ _) | (with_reducible assumption) | ((with_reducible refine Below.alloc ?_ ?_ _); rotate_left; (first | omega | (simp <;> omega))) | ((with_reducible refine Below.setCell ?_ ?_ _); rotate_left; (first | omega | (simp <;> omega))) | (with_reducible refine below_drewN ?_ _) | (with_reducible refine Below.drew ?_) | ((with_reducible refine Below.step (by assumption) ?_ ?_); rotate_left; (first | omega | (simp <;> omega)))))⟩
        by_cases hn : num = 0
        rotate_left
        ·
          have hnb : (num == 0) = false := by simpa using hn
          go_wp2_with ((first | (go_at_call 98; refine (S_in_is (show inB 6 4 7 = true from rfl) _).mono ?_; rintro e w' ⟨rfl, rfl⟩) | fail))
          (try (go_quiet ((first | (go_at_call 98; exact quiet_same (S_in_is (show inB 6 4 7 = true from rfl) _)) | fail)); go_wp2_with ((first | (go_at_call 98; refine (S_in_is (show inB 6 4 7 = true from rfl) _).mono ?_; rintro e w' ⟨rfl, rfl⟩) | fail))))
          (try (go_quiet ((first | (go_at_call 98; exact quiet_same (S_in_is (show inB 6 4 7 = true from rfl) _)) | fail)); go_wp2_with ((first | (go_at_call 98; refine (S_in_is (show inB 6 4 7 = true from rfl) _).mono ?_; rintro e w' ⟨rfl, rfl⟩) | fail))))
          go_ret
          exact ⟨ret_bool (by rw [HA.out, fld]; simp [namedOp, hn]), (by repeat (first | (with_reducible exact Below.refl _ _) | (with_reducible assumption) | ((with_reducible refine Below.alloc ?_ ?_ _); rotate_left; (first | omega | (simp <;> omega))) | ((with_reducible refine Below.setCell ?_ ?_ _); rotate_left; (first | omega | (simp <;> omega))) | (with_reducible refine below_drewN ?_ _) | (with_reducible refine Below.drew ?_) | ((with_reducible refine Below.step (by assumption) ?_ ?_); rotate_left; (first | omega | (simp <;> omega)))))⟩
        subst hn
        go_wp2_with ((first | (go_at_call 98; refine (S_in_is (show inB 6 4 7 = true from rfl) _).mono ?_; rintro e w' ⟨rfl, rfl⟩) | fail))
        (try (go_quiet ((first | (go_at_call 98; exact quiet_same (S_in_is (show inB 6 4 7 = true from rfl) _)) | fail)); go_wp2_with ((first | (go_at_call 98; refine (S_in_is (show inB 6 4 7 = true from rfl) _).mono ?_; rintro e w' ⟨rfl, rfl⟩) | fail))))
        (try (go_quiet ((first | (go_at_call 98; exact quiet_same (S_in_is (show inB 6 4 7 = true from rfl) _)) | fail)); go_wp2_with ((first | (go_at_call 98; refine (S_in_is (show inB 6 4 7 = true from rfl) _).mono ?_; rintro e w' ⟨rfl, rfl⟩) | fail))))
        go_ret
        exact ⟨ret_bool (by rw [HA.out, fld, sh6, len_is 2]; simp [namedOp]), (by repeat (first | (with_reducible exact Below.refl _ _) | (with_reducible assumption) | ((with_reducible refine Below.alloc ?_ ?_ _); rotate_left; (first | omega | (simp <;> omega))) | ((with_reducible refine Below.setCell ?_ ?_ _); rotate_left; (first | omega | (simp <;> omega))) | (with_reducible refine below_drewN ?_ _) | (with_reducible refine Below.drew ?_) | ((with_reducible refine Below.step (by assumption) ?_ ?_); rotate_left; (first | omega | (simp <;> omega)))))⟩
      · -- 7
        rcases emp_cases name with ⟨rfl, hem⟩ | ⟨hne, hem⟩
        rotate_left
        ·
          go_wp2_with ((first | (go_at_call 98; refine (S_in_is (show inB 7 4 7 = true from rfl) _).mono ?_; rintro e w' ⟨rfl, rfl⟩) | fail))
          (try (go_quiet ((first | (go_at_call 98; exact quiet_same (S_in_is (show inB 7 4 7 = true from rfl) _)) | fail)); go_wp2_with ((first | (go_at_call 98; refine (S_in_is (show inB 7 4 7 = true from rfl) _).mono ?_; rintro e w' ⟨rfl, rfl⟩) | fail))))
          (try (go_quiet ((first | (go_at_call 98; exact quiet_same (S_in_is (show inB 7 4 7 = true from rfl) _)) | fail)); go_wp2_with ((first | (go_at_call 98; refine (S_in_is (show inB 7 4 7 = true from rfl) _).mono ?_; rintro e w' ⟨rfl, rfl⟩) | fail))))
          go_ret
          exact ⟨ret_bool (by rw [HA.out, fld]; simp [namedOp, hne]), (by repeat (first | (with_reducible exact Below.refl _ _) | (with_reducible assumption) | ((with_reducible refine Below.alloc ?_ ?_ _); rotate_left; (first | omega | (simp <;> omega))) | ((with_reducible refine Below.setCell ?_ ?_ _); rotate_left; (first | omega | (simp <;> omega))) | (with_reducible refine below_drewN ?_ _) | (with_reducible refine Below.drew ?_) | ((with_reducible refine Below.step (by assumption) ?_ ?_); rotate_left; (first | omega | (simp <;> omega)))))⟩
        by_cases hn : num = 0
        rotate_left
        ·
          have hnb : (num == 0) = false := by simpa using hn
          go_wp2_with ((first | (go_at_call 98; refine (S_in_is (show inB 7 4 7 = true from rfl) _).mono ?_; rintro e w' ⟨rfl, rfl⟩) | fail))
          (try (go_quiet ((first | (go_at_call 98; exact quiet_same (S_in_is (show inB 7 4 7 = true from rfl) _)) | fail)); go_wp2_with ((first | (go_at_call 98; refine (S_in_is (show inB 7 4 7 = true from rfl) _).mono ?_; rintro e w' ⟨rfl, rfl⟩) | fail))))
          (try (go_quiet ((first | (go_at_call 98; exact quiet_same (S_in_is (show inB 7 4 7 = true from rfl) _)) | fail)); go_wp2_with ((first | (go_at_call 98; refine (S_in_is (show inB 7 4 7 = true from rfl) _).mono ?_; rintro e w' ⟨rfl, rfl⟩) | fail))))
          go_ret
          exact ⟨ret_bool (by rw [HA.out, fld]; simp [namedOp, hn]), (by repeat (first | (with_reducible exact Below.refl _ _) | (with_reducible assumption) | ((with_reducible refine Below.alloc ?_ ?_ _); rotate_left; (first | omega | (simp <;> omega))) | ((with_reducible refine Below.setCell ?_ ?_ _); rotate_left; (first | omega | (simp <;> omega))) | (with_reducible refine below_drewN ?_ _) | (with_reducible refine Below.drew ?_) | ((with_reducible refine Below.step (by assumption) ?_ ?_); rotate_left; (first | omega | (simp <;> omega)))))⟩
        subst hn
        go_wp2_with ((first | (go_at_call 98; refine (S_in_is (show inB 7 4 7 = true from rfl) _).mono ?_; rintro e w' ⟨rfl, rfl⟩) | fail))
        (try (go_quiet ((first | (go_at_call 98; exact quiet_same (S_in_is (show inB 7 4 7 = true from rfl) _)) | fail)); go_wp2_with ((first | (go_at_call 98; refine (S_in_is (show inB 7 4 7 = true from rfl) _).mono ?_; rintro e w' ⟨rfl, rfl⟩) | fail))))
        (try (go_quiet ((first | (go_at_call 98; exact quiet_same (S_in_is (show inB 7 4 7 = true from rfl) _)) | fail)); go_wp2_with ((first | (go_at_call 98; refine (S_in_is (show inB 7 4 7 = true from rfl) _).mono ?_; rintro e w' ⟨rfl, rfl⟩) | fail))))
        go_ret
        exact ⟨ret_bool (by rw [HA.out, fld, sh7, len_is 2]; simp [namedOp]), (by repeat (first | (with_reducible exact Below.refl _ _) | (with_reducible assumption) | ((with_reducible refine Below.alloc ?_ ?_ _); rotate_left; (first | omega | (simp <;> omega))) | ((with_reducible refine Below.setCell ?_ ?_ _); rotate_left; (first | omega | (simp <;> omega))) | (with_reducible refine below_drewN ?_ _) | (with_reducible refine Below.drew ?_) | ((with_reducible refine Below.step (by assumption) ?_ ?_); rotate_left; (first | omega | (simp <;> omega)))))⟩
      · -- 9
        have e1 : (op == 1) = false := by simp; omega
        have e2 : (op == 2) = false := by simp; omega
        have e3 : (op == 3) = false := by simp; omega
        have e4 : (op == 4) = false := by simp; omega
        have e5 : (op == 5) = false := by simp; omega
        have e6 : (op == 6) = false := by simp; omega
        have e7 : (op == 7) = false := by simp; omega
        have e8 : (op == 8) = false := by simp; omega
        have f1 : ¬ op = 1 := by omega
        have hf : inB op 4 7 = false := by unfold inB; simp; omega
        have n9 := nm9 h9
        have s9 := sh9 h9 l.length
        rcases emp_cases name with ⟨rfl, hem⟩ | ⟨hne, hem⟩
        rotate_left
        ·
          go_wp2_with ((first | (go_at_call 98; refine (S_in_is hf _).mono ?_; rintro e w' ⟨rfl, rfl⟩) | fail))
          (try (go_quiet ((first | (go_at_call 98; exact quiet_same (S_in_is hf _)) | fail)); go_wp2_with ((first | (go_at_call 98; refine (S_in_is hf _).mono ?_; rintro e w' ⟨rfl, rfl⟩) | fail))))
          (try (go_quiet ((first | (go_at_call 98; exact quiet_same (S_in_is hf _)) | fail)); go_wp2_with ((first | (go_at_call 98; refine (S_in_is hf _).mono ?_; rintro e w' ⟨rfl, rfl⟩) | fail))))
          go_ret
          exact ⟨ret_bool (by rw [HA.out, fld]; simp [n9, hne]), (by repeat (first | (with_reducible exact Below.refl _ _) | (with_reducible assumption) | ((with_reducible refine Below.alloc ?_ ?_ _); rotate_left; (first | omega | (simp <;> omega))) | ((with_reducible refine Below.setCell ?_ ?_ _); rotate_left; (first | omega | (simp <;> omega))) | (with_reducible refine below_drewN ?_ _) | (with_reducible refine Below.drew ?_) | ((with_reducible refine Below.step (by assumption) ?_ ?_); rotate_left; (first | omega | (simp <;> omega)))))⟩
        by_cases hn : num = 0
        rotate_left
        ·
          have hnb : (num == 0) = false := by simpa using hn
          go_wp2_with ((first | (go_at_call 98; refine (S_in_is hf _).mono ?_; rintro e w' ⟨rfl, rfl⟩) | fail))
          (try (go_quiet ((first | (go_at_call 98; exact quiet_same (S_in_is hf _)) | fail)); go_wp2_with ((first | (go_at_call 98; refine (S_in_is hf _).mono ?_; rintro e w' ⟨rfl, rfl⟩) | fail))))
          (try (go_quiet ((first | (go_at_call 98; exact quiet_same (S_in_is hf _)) | fail)); go_wp2_with ((first | (go_at_call 98; refine (S_in_is hf _).mono ?_; rintro e w' ⟨rfl, rfl⟩) | fail))))
          go_ret
          exact ⟨ret_bool (by rw [HA.out, fld]; simp [n9, hn, f1]), (by repeat (first | (with_reducible exact Below.refl _ _) | (with_reducible assumption) | ((with_reducible refine Below.alloc ?_ ?_ _); rotate_left; (first | omega | (simp <;> omega))) | ((with_reducible refine Below.setCell ?_ ?_ _); rotate_left; (first | omega | (simp <;> omega))) | (with_reducible refine below_drewN ?_ _) | (with_reducible refine Below.drew ?_) | ((with_reducible refine Below.step (by assumption) ?_ ?_); rotate_left; (first | omega | (simp <;> omega)))))⟩
        subst hn
        go_wp2_with ((first | (go_at_call 98; refine (S_in_is hf _).mono ?_; rintro e w' ⟨rfl, rfl⟩) | fail))
        (try (go_quiet ((first | (go_at_call 98; exact quiet_same (S_in_is hf _)) | fail)); go_wp2_with ((first | (go_at_call 98; refine (S_in_is hf _).mono ?_; rintro e w' ⟨rfl, rfl⟩) | fail))))
        (try (go_quiet ((first | (go_at_call 98; exact quiet_same (S_in_is hf _)) | fail)); go_wp2_with ((first | (go_at_call 98; refine (S_in_is hf _).mono ?_; rintro e w' ⟨rfl, rfl⟩) | fail))))
        go_ret
        exact ⟨ret_bool (by rw [HA.out, fld]; simp [n9, s9, beq_cast]), (by repeat (first | (with_reducible exact Below.refl _ _) | (with_reducible assumption) | ((with_reducible refine Below.alloc ?_ ?_ _); rotate_left; (first | omega | (simp <;> omega))) | ((with_reducible refine Below.setCell ?_ ?_ _); rotate_left; (first | omega | (simp <;> omega))) | (with_reducible refine below_drewN ?_ _) | (with_reducible refine Below.drew ?_) | ((with_reducible refine Below.step (by assumption) ?_ ?_); rotate_left; (first | omega | (simp <;> omega)))))⟩
theorem ident_ne {l : List UInt8} (h : isIdent l = true) : l ≠ [] := by
  intro e; subst e; exact absurd h (by decide)
set_option maxHeartbeats 16000000 in
theorem I_validNode {op : Int} {name : List UInt8} {num : Int} {A : Option Addr} {c : Nat} {l : List Int} (w : World) (hs : name.length ≤ maxLen) (h : RS w 1 A l.length c (ints l)) :
    Calls Tryz.prog 34 #[vNode op name num A l.length c] w fun e w' => e = .returned (.bool (okFields (op, name, num, l))) ∧ Below w.heap.size w w' := by
  have HI : Hid (∀ wx, Calls Tryz.prog 36 #[str name] wx fun e w' => e = .returned (.bool (isIdent name)) ∧ Below wx.heap.size wx w') := Lib.hid (fun wx => I_IsIdentifier (l := name) wx hs)
  have hll := h.len
  unfold maxLen at hll
  clear h hs
  have HB0 : Hid (Below w.heap.size w (w.alloc (.cells #[.int .i64 op, str name, .int .i64 num, .slice A l.length c] 70))) := Lib.hid (by repeat (first | (with_reducible exact Below.refl _ _) | (with_reducible assumption) | ((with_reducible refine Below.alloc ?_ ?_ _); rotate_left; (first | omega | (simp <;> omega))) | ((with_reducible refine Below.setCell ?_ ?_ _); rotate_left; (first | omega | (simp <;> omega))) | (with_reducible refine below_drewN ?_ _) | (with_reducible refine Below.drew ?_) | ((with_reducible refine Below.step (by assumption) ?_ ?_); rotate_left; (first | omega | (simp <;> omega)))))
  rcases op_cases op with rfl | rfl | rfl | rfl | rfl | rfl | rfl | rfl | h9
  · -- 1
    cases hq : isIdent name with
    | true =>
      have hne := ident_ne hq
      have HJ : Hid (∀ wx, Calls Tryz.prog 36 #[str name] wx fun e w' => e = .returned (.bool true) ∧ Below wx.heap.size wx w') := Lib.hid (fun wx => by have := HI.out wx; rw [hq] at this; exact this)
      clear HI
      go_enter Tryz.func34, Tryz.ntmps34
      go_wp2_with ((first | (go_at_call 36; refine (HJ.out _).mono ?_; rintro e w' ⟨rfl, hb⟩; have hz := hb.size; (try simp at hz); have c0 := fun o => hb.cell (p := ⟨w.heap.size, o, none⟩) (by first | omega | (simp <;> omega)); have f0 := fun o => hb.frozen (p := ⟨w.heap.size, o, none⟩) (by first | omega | (simp <;> omega)); have z0 : w.heap.size < w'.heap.size := (by omega)) | (go_at_call 37; refine (I_within_is hn _).mono ?_; rintro e w' ⟨rfl, rfl⟩) |  fail))
      (try (go_quiet ((first | (go_at_call 37; exact quiet_same (I_within_is hn _)) | fail)); go_wp2_with ((first | (go_at_call 36; refine (HJ.out _).mono ?_; rintro e w' ⟨rfl, hb⟩; have hz := hb.size; (try simp at hz); have c0 := fun o => hb.cell (p := ⟨w.heap.size, o, none⟩) (by first | omega | (simp <;> omega)); have f0 := fun o => hb.frozen (p := ⟨w.heap.size, o, none⟩) (by first | omega | (simp <;> omega)); have z0 : w.heap.size < w'.heap.size := (by omega)) | (go_at_call 37; refine (I_within_is hn _).mono ?_; rintro e w' ⟨rfl, rfl⟩) |  fail))))
      (try (go_quiet ((first | (go_at_call 37; exact quiet_same (I_within_is hn _)) | fail)); go_wp2_with ((first | (go_at_call 36; refine (HJ.out _).mono ?_; rintro e w' ⟨rfl, hb⟩; have hz := hb.size; (try simp at hz); have c0 := fun o => hb.cell (p := ⟨w.heap.size, o, none⟩) (by first | omega | (simp <;> omega)); have f0 := fun o => hb.frozen (p := ⟨w.heap.size, o, none⟩) (by first | omega | (simp <;> omega)); have z0 : w.heap.size < w'.heap.size := (by omega)) | (go_at_call 37; refine (I_within_is hn _).mono ?_; rintro e w' ⟨rfl, rfl⟩) |  fail))))
      go_ret
      exact ⟨ret_bool (by rw [fld]; simp [namedOp, hne]), (by repeat (first | (with_reducible exact Below.refl _ _) | (with_reducible assumption) | ((with_reducible refine Below.alloc ?_ ?_ _); rotate_left; (first | omega | (simp <;> omega))) | ((with_reducible refine Below.setCell ?_ ?_ _); rotate_left; (first | omega | (simp <;> omega))) | (with_reducible refine below_drewN ?_ _) | (with_reducible refine Below.drew ?_) | ((with_reducible refine Below.step (by assumption) ?_ ?_); rotate_left; (first | omega | (simp <;> omega)))))⟩
    | false =>
      rcases emp_cases name with ⟨rfl, hem⟩ | ⟨hne, hem⟩
      rotate_left
      ·
        have HJ : Hid (∀ wx, Calls Tryz.prog 36 #[str name] wx fun e w' => e = .returned (.bool false) ∧ Below wx.heap.size wx w') := Lib.hid (fun wx => by have := HI.out wx; rw [hq] at this; exact this)
        clear HI
        go_enter Tryz.func34, Tryz.ntmps34
        go_wp2_with ((first | (go_at_call 36; refine (HJ.out _).mono ?_; rintro e w' ⟨rfl, hb⟩; have hz := hb.size; (try simp at hz); have c0 := fun o => hb.cell (p := ⟨w.heap.size, o, none⟩) (by first | omega | (simp <;> omega)); have f0 := fun o => hb.frozen (p := ⟨w.heap.size, o, none⟩) (by first | omega | (simp <;> omega)); have z0 : w.heap.size < w'.heap.size := (by omega)) | (go_at_call 37; refine (I_within_is hn _).mono ?_; rintro e w' ⟨rfl, rfl⟩) |  fail))
        (try (go_quiet ((first | (go_at_call 37; exact quiet_same (I_within_is hn _)) | fail)); go_wp2_with ((first | (go_at_call 36; refine (HJ.out _).mono ?_; rintro e w' ⟨rfl, hb⟩; have hz := hb.size; (try simp at hz); have c0 := fun o => hb.cell (p := ⟨w.heap.size, o, none⟩) (by first | omega | (simp <;> omega)); have f0 := fun o => hb.frozen (p := ⟨w.heap.size, o, none⟩) (by first | omega | (simp <;> omega)); have z0 : w.heap.size < w'.heap.size := (by omega)) | (go_at_call 37; refine (I_within_is hn _).mono ?_; rintro e w' ⟨rfl, rfl⟩) |  fail))))
        (try (go_quiet ((first | (go_at_call 37; exact quiet_same (I_within_is hn _)) | fail)); go_wp2_with ((first | (go_at_call 36; refine (HJ.out _).mono ?_; rintro e w' ⟨rfl, hb⟩; have hz := hb.size; (try simp at hz); have c0 := fun o => hb.cell (p := ⟨w.heap.size, o, none⟩) (by first | omega | (simp <;> omega)); have f0 := fun o => hb.frozen (p := ⟨w.heap.size, o, none⟩) (by first | omega | (simp <;> omega)); have z0 : w.heap.size < w'.heap.size := (by omega)) | (go_at_call 37; refine (I_within_is hn _).mono ?_; rintro e w' ⟨rfl, rfl⟩) |  fail))))
        go_ret
        exact ⟨ret_bool (by rw [fld]; simp [namedOp, hne]), (by repeat (first | (with_reducible exact Below.refl _ _) | (with_reducible assumption) | ((with_reducible refine Below.alloc ?_ ?_ _); rotate_left; (first | omega | (simp <;> omega))) | ((with_reducible refine Below.setCell ?_ ?_ _); rotate_left; (first | omega | (simp <;> omega))) | (with_reducible refine below_drewN ?_ _) | (with_reducible refine Below.drew ?_) | ((with_reducible refine Below.step (by assumption) ?_ ?_); rotate_left; (first | omega | (simp <;> omega)))))⟩
      cases hn : inB num 0 2559999 with
      | false =>
        have HJ : Hid (∀ wx, Calls Tryz.prog 36 #[str []] wx fun e w' => e = .returned (.bool false) ∧ Below wx.heap.size wx w') := Lib.hid (fun wx => by have := HI.out wx; rw [hq] at this; exact this)
        clear HI
        go_enter Tryz.func34, Tryz.ntmps34
        go_wp2_with ((first | (go_at_call 36; refine (HJ.out _).mono ?_; rintro e w' ⟨rfl, hb⟩; have hz := hb.size; (try simp at hz); have c0 := fun o => hb.cell (p := ⟨w.heap.size, o, none⟩) (by first | omega | (simp <;> omega)); have f0 := fun o => hb.frozen (p := ⟨w.heap.size, o, none⟩) (by first | omega | (simp <;> omega)); have z0 : w.heap.size < w'.heap.size := (by omega)) | (go_at_call 37; refine (I_within_is hn _).mono ?_; rintro e w' ⟨rfl, rfl⟩) |  fail))
        (try (go_quiet ((first | (go_at_call 37; exact quiet_same (I_within_is hn _)) | fail)); go_wp2_with ((first | (go_at_call 36; refine (HJ.out _).mono ?_; rintro e w' ⟨rfl, hb⟩; have hz := hb.size; (try simp at hz); have c0 := fun o => hb.cell (p := ⟨w.heap.size, o, none⟩) (by first | omega | (simp <;> omega)); have f0 := fun o => hb.frozen (p := ⟨w.heap.size, o, none⟩) (by first | omega | (simp <;> omega)); have z0 : w.heap.size < w'.heap.size := (by omega)) | (go_at_call 37; refine (I_within_is hn _).mono ?_; rintro e w' ⟨rfl, rfl⟩) |  fail))))
        (try (go_quiet ((first | (go_at_call 37; exact quiet_same (I_within_is hn _)) | fail)); go_wp2_with ((first | (go_at_call 36; refine (HJ.out _).mono ?_; rintro e w' ⟨rfl, hb⟩; have hz := hb.size; (try simp at hz); have c0 := fun o => hb.cell (p := ⟨w.heap.size, o, none⟩) (by first | omega | (simp <;> omega)); have f0 := fun o => hb.frozen (p := ⟨w.heap.size, o, none⟩) (by first | omega | (simp <;> omega)); have z0 : w.heap.size < w'.heap.size := (by omega)) | (go_at_call 37; refine (I_within_is hn _).mono ?_; rintro e w' ⟨rfl, rfl⟩) |  fail))))
        go_ret
        exact ⟨ret_bool (by rw [fld]; simp [namedOp, hn]), (by repeat (first | (with_reducible exact Below.refl _ _) | (with_reducible assumption) | ((with_reducible refine Below.alloc ?_ ?_ _); rotate_left; (first | omega | (simp <;> omega))) | ((with_reducible refine Below.setCell ?_ ?_ _); rotate_left; (first | omega | (simp <;> omega))) | (with_reducible refine below_drewN ?_ _) | (with_reducible refine Below.drew ?_) | ((with_reducible refine Below.step (by assumption) ?_ ?_); rotate_left; (first | omega | (simp <;> omega)))))⟩
      | true =>
        have HJ : Hid (∀ wx, Calls Tryz.prog 36 #[str []] wx fun e w' => e = .returned (.bool false) ∧ Below wx.heap.size wx w') := Lib.hid (fun wx => by have := HI.out wx; rw [hq] at this; exact this)
        clear HI
        go_enter Tryz.func34, Tryz.ntmps34
        go_wp2_with ((first | (go_at_call 36; refine (HJ.out _).mono ?_; rintro e w' ⟨rfl, hb⟩; have hz := hb.size; (try simp at hz); have c0 := fun o => hb.cell (p := ⟨w.heap.size, o, none⟩) (by first | omega | (simp <;> omega)); have f0 := fun o => hb.frozen (p := ⟨w.heap.size, o, none⟩) (by first | omega | (simp <;> omega)); have z0 : w.heap.size < w'.heap.size := (by omega)) | (go_at_call 37; refine (I_within_is hn _).mono ?_; rintro e w' ⟨rfl, rfl⟩) |  fail))
        (try (go_quiet ((first | (go_at_call 37; exact quiet_same (I_within_is hn _)) | fail)); go_wp2_with ((first | (go_at_call 36; refine (HJ.out _).mono ?_; rintro e w' ⟨rfl, hb⟩; have hz := hb.size; (try simp at hz); have c0 := fun o => hb.cell (p := ⟨w.heap.size, o, none⟩) (by first | omega | (simp <;> omega)); have f0 := fun o => hb.frozen (p := ⟨w.heap.size, o, none⟩) (by first | omega | (simp <;> omega)); have z0 : w.heap.size < w'.heap.size := (by omega)) | (go_at_call 37; refine (I_within_is hn _).mono ?_; rintro e w' ⟨rfl, rfl⟩) |  fail))))
        (try (go_quiet ((first | (go_at_call 37; exact quiet_same (I_within_is hn _)) | fail)); go_wp2_with ((first | (go_at_call 36; refine (HJ.out _).mono ?_; rintro e w' ⟨rfl, hb⟩; have hz := hb.size; (try simp at hz); have c0 := fun o => hb.cell (p := ⟨w.heap.size, o, none⟩) (by first | omega | (simp <;> omega)); have f0 := fun o => hb.frozen (p := ⟨w.heap.size, o, none⟩) (by first | omega | (simp <;> omega)); have z0 : w.heap.size < w'.heap.size := (by omega)) | (go_at_call 37; refine (I_within_is hn _).mono ?_; rintro e w' ⟨rfl, rfl⟩) |  fail))))
        go_ret
        exact ⟨ret_bool (by rw [fld, sh1, len_is 0]; simp [namedOp, hn]), (by repeat (first | (with_reducible exact Below.refl _ _) | (with_reducible assumption) | ((with_reducible refine Below.alloc ?_ ?_ _); rotate_left; (first | omega | (simp <;> omega))) | ((with_reducible refine Below.setCell ?_ ?_ _); rotate_left; (first | omega | (simp <;> omega))) | (with_reducible refine below_drewN ?_ _) | (with_reducible refine Below.drew ?_) | ((with_reducible refine Below.step (by assumption) ?_ ?_); rotate_left; (first | omega | (simp <;> omega)))))⟩
  · -- 2
    cases hq : isIdent name with
    | false =>
      have HJ : Hid (∀ wx, Calls Tryz.prog 36 #[str name] wx fun e w' => e = .returned (.bool false) ∧ Below wx.heap.size wx w') := Lib.hid (fun wx => by have := HI.out wx; rw [hq] at this; exact this)
      clear HI
      go_enter Tryz.func34, Tryz.ntmps34
      go_wp2_with ((first | (go_at_call 36; refine (HJ.out _).mono ?_; rintro e w' ⟨rfl, hb⟩; have hz := hb.size; (try simp at hz); have c0 := fun o => hb.cell (p := ⟨w.heap.size, o, none⟩) (by first | omega | (simp <;> omega)); have f0 := fun o => hb.frozen (p := ⟨w.heap.size, o, none⟩) (by first | omega | (simp <;> omega)); have z0 : w.heap.size < w'.heap.size := (by omega)) |  fail))
      (try (go_quiet (fail); go_wp2_with ((first | (go_at_call 36; refine (HJ.out _).mono ?_; rintro e w' ⟨rfl, hb⟩; have hz := hb.size; (try simp at hz); have c0 := fun o => hb.cell (p := ⟨w.heap.size, o, none⟩) (by first | omega | (simp <;> omega)); have f0 := fun o => hb.frozen (p := ⟨w.heap.size, o, none⟩) (by first | omega | (simp <;> omega)); have z0 : w.heap.size < w'.heap.size := (by omega)) |  fail))))
      (try (go_quiet (fail); go_wp2_with ((first | (go_at_call 36; refine (HJ.out _).mono ?_; rintro e w' ⟨rfl, hb⟩; have hz := hb.size; (try simp at hz); have c0 := fun o => hb.cell (p := ⟨w.heap.size, o, none⟩) (by first | omega | (simp <;> omega)); have f0 := fun o => hb.frozen (p := ⟨w.heap.size, o, none⟩) (by first | omega | (simp <;> omega)); have z0 : w.heap.size < w'.heap.size := (by omega)) |  fail))))
      go_ret
      exact ⟨ret_bool (by rw [fld]; simp [namedOp, hq]), (by repeat (first | (with_reducible exact Below.refl _ _) | (with_reducible assumption) | ((with_reducible refine Below.alloc ?_ ?_ _); rotate_left; (first | omega | (simp <;> omega))) | ((with_reducible refine Below.setCell ?_ ?_ _); rotate_left; (first | omega | (simp <;> omega))) | (with_reducible refine below_drewN ?_ _) | (with_reducible refine Below.drew ?_) | ((with_reducible refine Below.step (by assumption) ?_ ?_); rotate_left; (first | omega | (simp <;> omega)))))⟩
    | true =>
      by_cases hn : num = 0
      rotate_left
      ·
        have hnb : (num == 0) = false := by simpa using hn
        have HJ : Hid (∀ wx, Calls Tryz.prog 36 #[str name] wx fun e w' => e = .returned (.bool true) ∧ Below wx.heap.size wx w') := Lib.hid (fun wx => by have := HI.out wx; rw [hq] at this; exact this)
        clear HI
        go_enter Tryz.func34, Tryz.ntmps34
        go_wp2_with ((first | (go_at_call 36; refine (HJ.out _).mono ?_; rintro e w' ⟨rfl, hb⟩; have hz := hb.size; (try simp at hz); have c0 := fun o => hb.cell (p := ⟨w.heap.size, o, none⟩) (by first | omega | (simp <;> omega)); have f0 := fun o => hb.frozen (p := ⟨w.heap.size, o, none⟩) (by first | omega | (simp <;> omega)); have z0 : w.heap.size < w'.heap.size := (by omega)) |  fail))
        (try (go_quiet (fail); go_wp2_with ((first | (go_at_call 36; refine (HJ.out _).mono ?_; rintro e w' ⟨rfl, hb⟩; have hz := hb.size; (try simp at hz); have c0 := fun o => hb.cell (p := ⟨w.heap.size, o, none⟩) (by first | omega | (simp <;> omega)); have f0 := fun o => hb.frozen (p := ⟨w.heap.size, o, none⟩) (by first | omega | (simp <;> omega)); have z0 : w.heap.size < w'.heap.size := (by omega)) |  fail))))
        (try (go_quiet (fail); go_wp2_with ((first | (go_at_call 36; refine (HJ.out _).mono ?_; rintro e w' ⟨rfl, hb⟩; have hz := hb.size; (try simp at hz); have c0 := fun o => hb.cell (p := ⟨w.heap.size, o, none⟩) (by first | omega | (simp <;> omega)); have f0 := fun o => hb.frozen (p := ⟨w.heap.size, o, none⟩) (by first | omega | (simp <;> omega)); have z0 : w.heap.size < w'.heap.size := (by omega)) |  fail))))
        go_ret
        exact ⟨ret_bool (by rw [fld]; simp [namedOp, hn]), (by repeat (first | (with_reducible exact Below.refl _ _) | (with_reducible assumption) | ((with_reducible refine Below.alloc ?_ ?_ _); rotate_left; (first | omega | (simp <;> omega))) | ((with_reducible refine Below.setCell ?_ ?_ _); rotate_left; (first | omega | (simp <;> omega))) | (with_reducible refine below_drewN ?_ _) | (with_reducible refine Below.drew ?_) | ((with_reducible refine Below.step (by assumption) ?_ ?_); rotate_left; (first | omega | (simp <;> omega)))))⟩
      subst hn
      have HJ : Hid (∀ wx, Calls Tryz.prog 36 #[str name] wx fun e w' => e = .returned (.bool true) ∧ Below wx.heap.size wx w') := Lib.hid (fun wx => by have := HI.out wx; rw [hq] at this; exact this)
      clear HI
      go_enter Tryz.func34, Tryz.ntmps34
      go_wp2_with ((first | (go_at_call 36; refine (HJ.out _).mono ?_; rintro e w' ⟨rfl, hb⟩; have hz := hb.size; (try simp at hz); have c0 := fun o => hb.cell (p := ⟨w.heap.size, o, none⟩) (by first | omega | (simp <;> omega)); have f0 := fun o => hb.frozen (p := ⟨w.heap.size, o, none⟩) (by first | omega | (simp <;> omega)); have z0 : w.heap.size < w'.heap.size := (by omega)) |  fail))
      (try (go_quiet (fail); go_wp2_with ((first | (go_at_call 36; refine (HJ.out _).mono ?_; rintro e w' ⟨rfl, hb⟩; have hz := hb.size; (try simp at hz); have c0 := fun o => hb.cell (p := ⟨w.heap.size, o, none⟩) (by first | omega | (simp <;> omega)); have f0 := fun o => hb.frozen (p := ⟨w.heap.size, o, none⟩) (by first | omega | (simp <;> omega)); have z0 : w.heap.size < w'.heap.size := (by omega)) |  fail))))
      (try (go_quiet (fail); go_wp2_with ((first | (go_at_call 36; refine (HJ.out _).mono ?_; rintro e w' ⟨rfl, hb⟩; have hz := hb.size; (try simp at hz); have c0 := fun o => hb.cell (p := ⟨w.heap.size, o, none⟩) (by first | omega | (simp <;> omega)); have f0 := fun o => hb.frozen (p := ⟨w.heap.size, o, none⟩) (by first | omega | (simp <;> omega)); have z0 : w.heap.size < w'.heap.size := (by omega)) |  fail))))
      go_ret
      exact ⟨ret_bool (by rw [fld, sh2, len_is 0]; simp [namedOp, hq]), (by repeat (first | (with_reducible exact Below.refl _ _) | (with_reducible assumption) | ((with_reducible refine Below.alloc ?_ ?_ _); rotate_left; (first | omega | (simp <;> omega))) | ((with_reducible refine Below.setCell ?_ ?_ _); rotate_left; (first | omega | (simp <;> omega))) | (with_reducible refine below_drewN ?_ _) | (with_reducible refine Below.drew ?_) | ((with_reducible refine Below.step (by assumption) ?_ ?_); rotate_left; (first | omega | (simp <;> omega)))))⟩
  · -- 8
    cases hq : isIdent name with
    | false =>
      have HJ : Hid (∀ wx, Calls Tryz.prog 36 #[str name] wx fun e w' => e = .returned (.bool false) ∧ Below wx.heap.size wx w') := Lib.hid (fun wx => by have := HI.out wx; rw [hq] at this; exact this)
      clear HI
      go_enter Tryz.func34, Tryz.ntmps34
      go_wp2_with ((first | (go_at_call 36; refine (HJ.out _).mono ?_; rintro e w' ⟨rfl, hb⟩; have hz := hb.size; (try simp at hz); have c0 := fun o => hb.cell (p := ⟨w.heap.size, o, none⟩) (by first | omega | (simp <;> omega)); have f0 := fun o => hb.frozen (p := ⟨w.heap.size, o, none⟩) (by first | omega | (simp <;> omega)); have z0 : w.heap.size < w'.heap.size := (by omega)) |  fail))
      (try (go_quiet (fail); go_wp2_with ((first | (go_at_call 36; refine (HJ.out _).mono ?_; rintro e w' ⟨rfl, hb⟩; have hz := hb.size; (try simp at hz); have c0 := fun o => hb.cell (p := ⟨w.heap.size, o, none⟩) (by first | omega | (simp <;> omega)); have f0 := fun o => hb.frozen (p := ⟨w.heap.size, o, none⟩) (by first | omega | (simp <;> omega)); have z0 : w.heap.size < w'.heap.size := (by omega)) |  fail))))
      (try (go_quiet (fail); go_wp2_with ((first | (go_at_call 36; refine (HJ.out _).mono ?_; rintro e w' ⟨rfl, hb⟩; have hz := hb.size; (try simp at hz); have c0 := fun o => hb.cell (p := ⟨w.heap.size, o, none⟩) (by first | omega | (simp <;> omega)); have f0 := fun o => hb.frozen (p := ⟨w.heap.size, o, none⟩) (by first | omega | (simp <;> omega)); have z0 : w.heap.size < w'.heap.size := (by omega)) |  fail))))
      go_ret
      exact ⟨ret_bool (by rw [fld]; simp [namedOp, hq]), (by repeat (first | (with_reducible exact Below.refl _ _) | (with_reducible assumption) | ((with_reducible refine Below.alloc ?_ ?_ _); rotate_left; (first | omega | (simp <;> omega))) | ((with_reducible refine Below.setCell ?_ ?_ _); rotate_left; (first | omega | (simp <;> omega))) | (with_reducible refine below_drewN ?_ _) | (with_reducible refine Below.drew ?_) | ((with_reducible refine Below.step (by assumption) ?_ ?_); rotate_left; (first | omega | (simp <;> omega)))))⟩
    | true =>
      by_cases hn : num = 0
      rotate_left
      ·
        have hnb : (num == 0) = false := by simpa using hn
        have HJ : Hid (∀ wx, Calls Tryz.prog 36 #[str name] wx fun e w' => e = .returned (.bool true) ∧ Below wx.heap.size wx w') := Lib.hid (fun wx => by have := HI.out wx; rw [hq] at this; exact this)
        clear HI
        go_enter Tryz.func34, Tryz.ntmps34
        go_wp2_with ((first | (go_at_call 36; refine (HJ.out _).mono ?_; rintro e w' ⟨rfl, hb⟩; have hz := hb.size; (try simp at hz); have c0 := fun o => hb.cell (p := ⟨w.heap.size, o, none⟩) (by first | omega | (simp <;> omega)); have f0 := fun o => hb.frozen (p := ⟨w.heap.size, o, none⟩) (by first | omega | (simp <;> omega)); have z0 : w.heap.size < w'.heap.size := (by omega)) |  fail))
        (try (go_quiet (fail); go_wp2_with ((first | (go_at_call 36; refine (HJ.out _).mono ?_; rintro e w' ⟨rfl, hb⟩; have hz := hb.size; (try simp at hz); have c0 := fun o => hb.cell (p := ⟨w.heap.size, o, none⟩) (by first | omega | (simp <;> omega)); have f0 := fun o => hb.frozen (p := ⟨w.heap.size, o, none⟩) (by first | omega | (simp <;> omega)); have z0 : w.heap.size < w'.heap.size := (by omega)) |  fail))))
        (try (go_quiet (fail); go_wp2_with ((first | (go_at_call 36; refine (HJ.out _).mono ?_; rintro e w' ⟨rfl, hb⟩; have hz := hb.size; (try simp at hz); have c0 := fun o => hb.cell (p := ⟨w.heap.size, o, none⟩) (by first | omega | (simp <;> omega)); have f0 := fun o => hb.frozen (p := ⟨w.heap.size, o, none⟩) (by first | omega | (simp <;> omega)); have z0 : w.heap.size < w'.heap.size := (by omega)) |  fail))))
        go_ret
        exact ⟨ret_bool (by rw [fld]; simp [namedOp, hn]), (by repeat (first | (with_reducible exact Below.refl _ _) | (with_reducible assumption) | ((with_reducible refine Below.alloc ?_ ?_ _); rotate_left; (first | omega | (simp <;> omega))) | ((with_reducible refine Below.setCell ?_ ?_ _); rotate_left; (first | omega | (simp <;> omega))) | (with_reducible refine below_drewN ?_ _) | (with_reducible refine Below.drew ?_) | ((with_reducible refine Below.step (by assumption) ?_ ?_); rotate_left; (first | omega | (simp <;> omega)))))⟩
      subst hn
      have HJ : Hid (∀ wx, Calls Tryz.prog 36 #[str name] wx fun e w' => e = .returned (.bool true) ∧ Below wx.heap.size wx w') := Lib.hid (fun wx => by have := HI.out wx; rw [hq] at this; exact this)
      clear HI
      go_enter Tryz.func34, Tryz.ntmps34
      go_wp2_with ((first | (go_at_call 36; refine (HJ.out _).mono ?_; rintro e w' ⟨rfl, hb⟩; have hz := hb.size; (try simp at hz); have c0 := fun o => hb.cell (p := ⟨w.heap.size, o, none⟩) (by first | omega | (simp <;> omega)); have f0 := fun o => hb.frozen (p := ⟨w.heap.size, o, none⟩) (by first | omega | (simp <;> omega)); have z0 : w.heap.size < w'.heap.size := (by omega)) |  fail))
      (try (go_quiet (fail); go_wp2_with ((first | (go_at_call 36; refine (HJ.out _).mono ?_; rintro e w' ⟨rfl, hb⟩; have hz := hb.size; (try simp at hz); have c0 := fun o => hb.cell (p := ⟨w.heap.size, o, none⟩) (by first | omega | (simp <;> omega)); have f0 := fun o => hb.frozen (p := ⟨w.heap.size, o, none⟩) (by first | omega | (simp <;> omega)); have z0 : w.heap.size < w'.heap.size := (by omega)) |  fail))))
      (try (go_quiet (fail); go_wp2_with ((first | (go_at_call 36; refine (HJ.out _).mono ?_; rintro e w' ⟨rfl, hb⟩; have hz := hb.size; (try simp at hz); have c0 := fun o => hb.cell (p := ⟨w.heap.size, o, none⟩) (by first | omega | (simp <;> omega)); have f0 := fun o => hb.frozen (p := ⟨w.heap.size, o, none⟩) (by first | omega | (simp <;> omega)); have z0 : w.heap.size < w'.heap.size := (by omega)) |  fail))))
      go_ret
      exact ⟨ret_bool (by rw [fld, sh8, len_le 3]; simp [namedOp, hq]), (by repeat (first | (with_reducible exact Below.refl _ _) | (with_reducible assumption) | ((with_reducible refine Below.alloc ?_ ?_ _); rotate_left; (first | omega | (simp <;> omega))) | ((with_reducible refine Below.setCell ?_ ?_ _); rotate_left; (first | omega | (simp <;> omega))) | (with_reducible refine below_drewN ?_ _) | (with_reducible refine Below.drew ?_) | ((with_reducible refine Below.step (by assumption) ?_ ?_); rotate_left; (first | omega | (simp <;> omega)))))⟩
  · -- 3
    cases hq : isIdent name with
    | true =>
      have hne := ident_ne hq
      have HJ : Hid (∀ wx, Calls Tryz.prog 36 #[str name] wx fun e w' => e = .returned (.bool true) ∧ Below wx.heap.size wx w') := Lib.hid (fun wx => by have := HI.out wx; rw [hq] at this; exact this)
      clear HI
      go_enter Tryz.func34, Tryz.ntmps34
      go_wp2_with ((first | (go_at_call 36; refine (HJ.out _).mono ?_; rintro e w' ⟨rfl, hb⟩; have hz := hb.size; (try simp at hz); have c0 := fun o => hb.cell (p := ⟨w.heap.size, o, none⟩) (by first | omega | (simp <;> omega)); have f0 := fun o => hb.frozen (p := ⟨w.heap.size, o, none⟩) (by first | omega | (simp <;> omega)); have z0 : w.heap.size < w'.heap.size := (by omega)) |  fail))
      (try (go_quiet (fail); go_wp2_with ((first | (go_at_call 36; refine (HJ.out _).mono ?_; rintro e w' ⟨rfl, hb⟩; have hz := hb.size; (try simp at hz); have c0 := fun o => hb.cell (p := ⟨w.heap.size, o, none⟩) (by first | omega | (simp <;> omega)); have f0 := fun o => hb.frozen (p := ⟨w.heap.size, o, none⟩) (by first | omega | (simp <;> omega)); have z0 : w.heap.size < w'.heap.size := (by omega)) |  fail))))
      (try (go_quiet (fail); go_wp2_with ((first | (go_at_call 36; refine (HJ.out _).mono ?_; rintro e w' ⟨rfl, hb⟩; have hz := hb.size; (try simp at hz); have c0 := fun o => hb.cell (p := ⟨w.heap.size, o, none⟩) (by first | omega | (simp <;> omega)); have f0 := fun o => hb.frozen (p := ⟨w.heap.size, o, none⟩) (by first | omega | (simp <;> omega)); have z0 : w.heap.size < w'.heap.size := (by omega)) |  fail))))
      go_ret
      exact ⟨ret_bool (by rw [fld]; simp [namedOp, hne]), (by repeat (first | (with_reducible exact Below.refl _ _) | (with_reducible assumption) | ((with_reducible refine Below.alloc ?_ ?_ _); rotate_left; (first | omega | (simp <;> omega))) | ((with_reducible refine Below.setCell ?_ ?_ _); rotate_left; (first | omega | (simp <;> omega))) | (with_reducible refine below_drewN ?_ _) | (with_reducible refine Below.drew ?_) | ((with_reducible refine Below.step (by assumption) ?_ ?_); rotate_left; (first | omega | (simp <;> omega)))))⟩
    | false =>
      rcases emp_cases name with ⟨rfl, hem⟩ | ⟨hne, hem⟩
      rotate_left
      ·
        have HJ : Hid (∀ wx, Calls Tryz.prog 36 #[str name] wx fun e w' => e = .returned (.bool false) ∧ Below wx.heap.size wx w') := Lib.hid (fun wx => by have := HI.out wx; rw [hq] at this; exact this)
        clear HI
        go_enter Tryz.func34, Tryz.ntmps34
        go_wp2_with ((first | (go_at_call 36; refine (HJ.out _).mono ?_; rintro e w' ⟨rfl, hb⟩; have hz := hb.size; (try simp at hz); have c0 := fun o => hb.cell (p := ⟨w.heap.size, o, none⟩) (by first | omega | (simp <;> omega)); have f0 := fun o => hb.frozen (p := ⟨w.heap.size, o, none⟩) (by first | omega | (simp <;> omega)); have z0 : w.heap.size < w'.heap.size := (by omega)) |  fail))
        (try (go_quiet (fail); go_wp2_with ((first | (go_at_call 36; refine (HJ.out _).mono ?_; rintro e w' ⟨rfl, hb⟩; have hz := hb.size; (try simp at hz); have c0 := fun o => hb.cell (p := ⟨w.heap.size, o, none⟩) (by first | omega | (simp <;> omega)); have f0 := fun o => hb.frozen (p := ⟨w.heap.size, o, none⟩) (by first | omega | (simp <;> omega)); have z0 : w.heap.size < w'.heap.size := (by omega)) |  fail))))
        (try (go_quiet (fail); go_wp2_with ((first | (go_at_call 36; refine (HJ.out _).mono ?_; rintro e w' ⟨rfl, hb⟩; have hz := hb.size; (try simp at hz); have c0 := fun o => hb.cell (p := ⟨w.heap.size, o, none⟩) (by first | omega | (simp <;> omega)); have f0 := fun o => hb.frozen (p := ⟨w.heap.size, o, none⟩) (by first | omega | (simp <;> omega)); have z0 : w.heap.size < w'.heap.size := (by omega)) |  fail))))
        go_ret
        exact ⟨ret_bool (by rw [fld]; simp [namedOp, hne]), (by repeat (first | (with_reducible exact Below.refl _ _) | (with_reducible assumption) | ((with_reducible refine Below.alloc ?_ ?_ _); rotate_left; (first | omega | (simp <;> omega))) | ((with_reducible refine Below.setCell ?_ ?_ _); rotate_left; (first | omega | (simp <;> omega))) | (with_reducible refine below_drewN ?_ _) | (with_reducible refine Below.drew ?_) | ((with_reducible refine Below.step (by assumption) ?_ ?_); rotate_left; (first | omega | (simp <;> omega)))))⟩
      by_cases hn : num = 0
      rotate_left
      ·
        have hnb : (num == 0) = false := by simpa using hn
        have HJ : Hid (∀ wx, Calls Tryz.prog 36 #[str []] wx fun e w' => e = .returned (.bool false) ∧ Below wx.heap.size wx w') := Lib.hid (fun wx => by have := HI.out wx; rw [hq] at this; exact this)
        clear HI
        go_enter Tryz.func34, Tryz.ntmps34
        go_wp2_with ((first | (go_at_call 36; refine (HJ.out _).mono ?_; rintro e w' ⟨rfl, hb⟩; have hz := hb.size; (try simp at hz); have c0 := fun o => hb.cell (p := ⟨w.heap.size, o, none⟩) (by first | omega | (simp <;> omega)); have f0 := fun o => hb.frozen (p := ⟨w.heap.size, o, none⟩) (by first | omega | (simp <;> omega)); have z0 : w.heap.size < w'.heap.size := (by omega)) |  fail))
        (try (go_quiet (fail); go_wp2_with ((first | (go_at_call 36; refine (HJ.out _).mono ?_; rintro e w' ⟨rfl, hb⟩; have hz := hb.size; (try simp at hz); have c0 := fun o => hb.cell (p := ⟨w.heap.size, o, none⟩) (by first | omega | (simp <;> omega)); have f0 := fun o => hb.frozen (p := ⟨w.heap.size, o, none⟩) (by first | omega | (simp <;> omega)); have z0 : w.heap.size < w'.heap.size := (by omega)) |  fail))))
        (try (go_quiet (fail); go_wp2_with ((first | (go_at_call 36; refine (HJ.out _).mono ?_; rintro e w' ⟨rfl, hb⟩; have hz := hb.size; (try simp at hz); have c0 := fun o => hb.cell (p := ⟨w.heap.size, o, none⟩) (by first | omega | (simp <;> omega)); have f0 := fun o => hb.frozen (p := ⟨w.heap.size, o, none⟩) (by first | omega | (simp <;> omega)); have z0 : w.heap.size < w'.heap.size := (by omega)) |  fail))))
        go_ret
        exact ⟨ret_bool (by rw [fld]; simp [namedOp, hn]), (by repeat (first | (with_reducible exact Below.refl _ _) | (with_reducible assumption) | ((with_reducible refine Below.alloc ?_ ?_ _); rotate_left; (first | omega | (simp <;> omega))) | ((with_reducible refine Below.setCell ?_ ?_ _); rotate_left; (first | omega | (simp <;> omega))) | (with_reducible refine below_drewN ?_ _) | (with_reducible refine Below.drew ?_) | ((with_reducible refine Below.step (by assumption) ?_ ?_); rotate_left; (first | omega | (simp <;> omega)))))⟩
      subst hn
      have HJ : Hid (∀ wx, Calls Tryz.prog 36 #[str []] wx fun e w' => e = .returned (.bool false) ∧ Below wx.heap.size wx w') := Lib.hid (fun wx => by have := HI.out wx; rw [hq] at this; exact this)
      clear HI
      go_enter Tryz.func34, Tryz.ntmps34
      go_wp2_with ((first | (go_at_call 36; refine (HJ.out _).mono ?_; rintro e w' ⟨rfl, hb⟩; have hz := hb.size; (try simp at hz); have c0 := fun o => hb.cell (p := ⟨w.heap.size, o, none⟩) (by first | omega | (simp <;> omega)); have f0 := fun o => hb.frozen (p := ⟨w.heap.size, o, none⟩) (by first | omega | (simp <;> omega)); have z0 : w.heap.size < w'.heap.size := (by omega)) |  fail))
      (try (go_quiet (fail); go_wp2_with ((first | (go_at_call 36; refine (HJ.out _).mono ?_; rintro e w' ⟨rfl, hb⟩; have hz := hb.size; (try simp at hz); have c0 := fun o => hb.cell (p := ⟨w.heap.size, o, none⟩) (by first | omega | (simp <;> omega)); have f0 := fun o => hb.frozen (p := ⟨w.heap.size, o, none⟩) (by first | omega | (simp <;> omega)); have z0 : w.heap.size < w'.heap.size := (by omega)) |  fail))))
      (try (go_quiet (fail); go_wp2_with ((first | (go_at_call 36; refine (HJ.out _).mono ?_; rintro e w' ⟨rfl, hb⟩; have hz := hb.size; (try simp at hz); have c0 := fun o => hb.cell (p := ⟨w.heap.size, o, none⟩) (by first | omega | (simp <;> omega)); have f0 := fun o => hb.frozen (p := ⟨w.heap.size, o, none⟩) (by first | omega | (simp <;> omega)); have z0 : w.heap.size < w'.heap.size := (by omega)) |  fail))))
      go_ret
      exact ⟨ret_bool (by rw [fld, sh3, len_is 1]; simp [namedOp]), (by repeat (first | (with_reducible exact Below.refl _ _) | (with_reducible assumption) | ((with_reducible refine Below.alloc ?_ ?_ _); rotate_left; (first | omega | (simp <;> omega))) | ((with_reducible refine Below.setCell ?_ ?_ _); rotate_left; (first | omega | (simp <;> omega))) | (with_reducible refine below_drewN ?_ _) | (with_reducible refine Below.drew ?_) | ((with_reducible refine Below.step (by assumption) ?_ ?_); rotate_left; (first | omega | (simp <;> omega)))))⟩
  · -- 4
    cases hq : isIdent name with
    | true =>
      have hne := ident_ne hq
      have HJ : Hid (∀ wx, Calls Tryz.prog 36 #[str name] wx fun e w' => e = .returned (.bool true) ∧ Below wx.heap.size wx w') := Lib.hid (fun wx => by have := HI.out wx; rw [hq] at this; exact this)
      clear HI
      go_enter Tryz.func34, Tryz.ntmps34
      go_wp2_with ((first | (go_at_call 36; refine (HJ.out _).mono ?_; rintro e w' ⟨rfl, hb⟩; have hz := hb.size; (try simp at hz); have c0 := fun o => hb.cell (p := ⟨w.heap.size, o, none⟩) (by first | omega | (simp <;> omega)); have f0 := fun o => hb.frozen (p := ⟨w.heap.size, o, none⟩) (by first | omega | (simp <;> omega)); have z0 : w.heap.size < w'.heap.size := (by omega)) |  fail))
      (try (go_quiet (fail); go_wp2_with ((first | (go_at_call 36; refine (HJ.out _).mono ?_; rintro e w' ⟨rfl, hb⟩; have hz := hb.size; (try simp at hz); have c0 := fun o => hb.cell (p := ⟨w.heap.size, o, none⟩) (by first | omega | (simp <;> omega)); have f0 := fun o => hb.frozen (p := ⟨w.heap.size, o, none⟩) (by first | omega | (simp <;> omega)); have z0 : w.heap.size < w'.heap.size := (by omega)) |  fail))))
      (try (go_quiet (fail); go_wp2_with ((first | (go_at_call 36; refine (HJ.out _).mono ?_; rintro e w' ⟨rfl, hb⟩; have hz := hb.size; (try simp at hz); have c0 := fun o => hb.cell (p := ⟨w.heap.size, o, none⟩) (by first | omega | (simp <;> omega)); have f0 := fun o => hb.frozen (p := ⟨w.heap.size, o, none⟩) (by first | omega | (simp <;> omega)); have z0 : w.heap.size < w'.heap.size := (by omega)) |  fail))))
      go_ret
      exact ⟨ret_bool (by rw [fld]; simp [namedOp, hne]), (by repeat (first | (with_reducible exact Below.refl _ _) | (with_reducible assumption) | ((with_reducible refine Below.alloc ?_ ?_ _); rotate_left; (first | omega | (simp <;> omega))) | ((with_reducible refine Below.setCell ?_ ?_ _); rotate_left; (first | omega | (simp <;> omega))) | (with_reducible refine below_drewN ?_ _) | (with_reducible refine Below.drew ?_) | ((with_reducible refine Below.step (by assumption) ?_ ?_); rotate_left; (first | omega | (simp <;> omega)))))⟩
    | false =>
      rcases emp_cases name with ⟨rfl, hem⟩ | ⟨hne, hem⟩
      rotate_left
      ·
        have HJ : Hid (∀ wx, Calls Tryz.prog 36 #[str name] wx fun e w' => e = .returned (.bool false) ∧ Below wx.heap.size wx w') := Lib.hid (fun wx => by have := HI.out wx; rw [hq] at this; exact this)
        clear HI
        go_enter Tryz.func34, Tryz.ntmps34
        go_wp2_with ((first | (go_at_call 36; refine (HJ.out _).mono ?_; rintro e w' ⟨rfl, hb⟩; have hz := hb.size; (try simp at hz); have c0 := fun o => hb.cell (p := ⟨w.heap.size, o, none⟩) (by first | omega | (simp <;> omega)); have f0 := fun o => hb.frozen (p := ⟨w.heap.size, o, none⟩) (by first | omega | (simp <;> omega)); have z0 : w.heap.size < w'.heap.size := (by omega)) |  fail))
        (try (go_quiet (fail); go_wp2_with ((first | (go_at_call 36; refine (HJ.out _).mono ?_; rintro e w' ⟨rfl, hb⟩; have hz := hb.size; (try simp at hz); have c0 := fun o => hb.cell (p := ⟨w.heap.size, o, none⟩) (by first | omega | (simp <;> omega)); have f0 := fun o => hb.frozen (p := ⟨w.heap.size, o, none⟩) (by first | omega | (simp <;> omega)); have z0 : w.heap.size < w'.heap.size := (by omega)) |  fail))))
        (try (go_quiet (fail); go_wp2_with ((first | (go_at_call 36; refine (HJ.out _).mono ?_; rintro e w' ⟨rfl, hb⟩; have hz := hb.size; (try simp at hz); have c0 := fun o => hb.cell (p := ⟨w.heap.size, o, none⟩) (by first | omega | (simp <;> omega)); have f0 := fun o => hb.frozen (p := ⟨w.heap.size, o, none⟩) (by first | omega | (simp <;> omega)); have z0 : w.heap.size < w'.heap.size := (by omega)) |  fail))))
        go_ret
        exact ⟨ret_bool (by rw [fld]; simp [namedOp, hne]), (by repeat (first | (with_reducible exact Below.refl _ _) | (with_reducible assumption) | ((with_reducible refine Below.alloc ?_ ?_ _); rotate_left; (first | omega | (simp <;> omega))) | ((with_reducible refine Below.setCell ?_ ?_ _); rotate_left; (first | omega | (simp <;> omega))) | (with_reducible refine below_drewN ?_ _) | (with_reducible refine Below.drew ?_) | ((with_reducible refine Below.step (by assumption) ?_ ?_); rotate_left; (first | omega | (simp <;> omega)))))⟩
      by_cases hn : num = 0
      rotate_left
      ·
        have hnb : (num == 0) = false := by simpa using hn
        have HJ : Hid (∀ wx, Calls Tryz.prog 36 #[str []] wx fun e w' => e = .returned (.bool false) ∧ Below wx.heap.size wx w') := Lib.hid (fun wx => by have := HI.out wx; rw [hq] at this; exact this)
        clear HI
        go_enter Tryz.func34, Tryz.ntmps34
        go_wp2_with ((first | (go_at_call 36; refine (HJ.out _).mono ?_; rintro e w' ⟨rfl, hb⟩; have hz := hb.size; (try simp at hz); have c0 := fun o => hb.cell (p := ⟨w.heap.size, o, none⟩) (by first | omega | (simp <;> omega)); have f0 := fun o => hb.frozen (p := ⟨w.heap.size, o, none⟩) (by first | omega | (simp <;> omega)); have z0 : w.heap.size < w'.heap.size := (by omega)) |  fail))
        (try (go_quiet (fail); go_wp2_with ((first | (go_at_call 36; refine (HJ.out _).mono ?_; rintro e w' ⟨rfl, hb⟩; have hz := hb.size; (try simp at hz); have c0 := fun o => hb.cell (p := ⟨w.heap.size, o, none⟩) (by first | omega | (simp <;> omega)); have f0 := fun o => hb.frozen (p := ⟨w.heap.size, o, none⟩) (by first | omega | (simp <;> omega)); have z0 : w.heap.size < w'.heap.size := (by omega)) |  fail))))
        (try (go_quiet (fail); go_wp2_with ((first | (go_at_call 36; refine (HJ.out _).mono ?_; rintro e w' ⟨rfl, hb⟩; have hz := hb.size; (try simp at hz); have c0 := fun o => hb.cell (p := ⟨w.heap.size, o, none⟩) (by first | omega | (simp <;> omega)); have f0 := fun o => hb.frozen (p := ⟨w.heap.size, o, none⟩) (by first | omega | (simp <;> omega)); have z0 : w.heap.size < w'.heap.size := (by omega)) |  fail))))
        go_ret
        exact ⟨ret_bool (by rw [fld]; simp [namedOp, hn]), (by repeat (first | (with_reducible exact Below.refl _ _) | (with_reducible assumption) | ((with_reducible refine Below.alloc ?_ ?_ _); rotate_left; (first | omega | (simp <;> omega))) | ((with_reducible refine Below.setCell ?_ ?_ _); rotate_left; (first | omega | (simp <;> omega))) | (with_reducible refine below_drewN ?_ _) | (with_reducible refine Below.drew ?_) | ((with_reducible refine Below.step (by assumption) ?_ ?_); rotate_left; (first | omega | (simp <;> omega)))))⟩
      subst hn
      have HJ : Hid (∀ wx, Calls Tryz.prog 36 #[str []] wx fun e w' => e = .returned (.bool false) ∧ Below wx.heap.size wx w') := Lib.hid (fun wx => by have := HI.out wx; rw [hq] at this; exact this)
      clear HI
      go_enter Tryz.func34, Tryz.ntmps34
      go_wp2_with ((first | (go_at_call 36; refine (HJ.out _).mono ?_; rintro e w' ⟨rfl, hb⟩; have hz := hb.size; (try simp at hz); have c0 := fun o => hb.cell (p := ⟨w.heap.size, o, none⟩) (by first | omega | (simp <;> omega)); have f0 := fun o => hb.frozen (p := ⟨w.heap.size, o, none⟩) (by first | omega | (simp <;> omega)); have z0 : w.heap.size < w'.heap.size := (by omega)) |  fail))
      (try (go_quiet (fail); go_wp2_with ((first | (go_at_call 36; refine (HJ.out _).mono ?_; rintro e w' ⟨rfl, hb⟩; have hz := hb.size; (try simp at hz); have c0 := fun o => hb.cell (p := ⟨w.heap.size, o, none⟩) (by first | omega | (simp <;> omega)); have f0 := fun o => hb.frozen (p := ⟨w.heap.size, o, none⟩) (by first | omega | (simp <;> omega)); have z0 : w.heap.size < w'.heap.size := (by omega)) |  fail))))
      (try (go_quiet (fail); go_wp2_with ((first | (go_at_call 36; refine (HJ.out _).mono ?_; rintro e w' ⟨rfl, hb⟩; have hz := hb.size; (try simp at hz); have c0 := fun o => hb.cell (p := ⟨w.heap.size, o, none⟩) (by first | omega | (simp <;> omega)); have f0 := fun o => hb.frozen (p := ⟨w.heap.size, o, none⟩) (by first | omega | (simp <;> omega)); have z0 : w.heap.size < w'.heap.size := (by omega)) |  fail))))
      go_ret
      exact ⟨ret_bool (by rw [fld, sh4, len_is 2]; simp [namedOp]), (by repeat (first | (with_reducible exact Below.refl _ _) | (with_reducible assumption) | ((with_reducible refine Below.alloc ?_ ?_ _); rotate_left; (first | omega | (simp <;> omega))) | ((with_reducible refine Below.setCell ?_ ?_ _); rotate_left; (first | omega | (simp <;> omega))) | (with_reducible refine below_drewN ?_ _) | (with_reducible refine Below.drew ?_) | ((with_reducible refine Below.step (by assumption) ?_ ?_); rotate_left; (first | omega | (simp <;> omega)))))⟩
  · -- 5
    cases hq : isIdent name with
    | true =>
      have hne := ident_ne hq
      have HJ : Hid (∀ wx, Calls Tryz.prog 36 #[str name] wx fun e w' => e = .returned (.bool true) ∧ Below wx.heap.size wx w') := Lib.hid (fun wx => by have := HI.out wx; rw [hq] at this; exact this)
      clear HI
      go_enter Tryz.func34, Tryz.ntmps34
      go_wp2_with ((first | (go_at_call 36; refine (HJ.out _).mono ?_; rintro e w' ⟨rfl, hb⟩; have hz := hb.size; (try simp at hz); have c0 := fun o => hb.cell (p := ⟨w.heap.size, o, none⟩) (by first | omega | (simp <;> omega)); have f0 := fun o => hb.frozen (p := ⟨w.heap.size, o, none⟩) (by first | omega | (simp <;> omega)); have z0 : w.heap.size < w'.heap.size := (by omega)) |  fail))
      (try (go_quiet (fail); go_wp2_with ((first | (go_at_call 36; refine (HJ.out _).mono ?_; rintro e w' ⟨rfl, hb⟩; have hz := hb.size; (try simp at hz); have c0 := fun o => hb.cell (p := ⟨w.heap.size, o, none⟩) (by first | omega | (simp <;> omega)); have f0 := fun o => hb.frozen (p := ⟨w.heap.size, o, none⟩) (by first | omega | (simp <;> omega)); have z0 : w.heap.size < w'.heap.size := (by omega)) |  fail))))
      (try (go_quiet (fail); go_wp2_with ((first | (go_at_call 36; refine (HJ.out _).mono ?_; rintro e w' ⟨rfl, hb⟩; have hz := hb.size; (try simp at hz); have c0 := fun o => hb.cell (p := ⟨w.heap.size, o, none⟩) (by first | omega | (simp <;> omega)); have f0 := fun o => hb.frozen (p := ⟨w.heap.size, o, none⟩) (by first | omega | (simp <;> omega)); have z0 : w.heap.size < w'.heap.size := (by omega)) |  fail))))
      go_ret
      exact ⟨ret_bool (by rw [fld]; simp [namedOp, hne]), (by repeat (first | (with_reducible exact Below.refl _ _) | (with_reducible assumption) | ((with_reducible refine Below.alloc ?_ ?_ _); rotate_left; (first | omega | (simp <;> omega))) | ((with_reducible refine Below.setCell ?_ ?_ _); rotate_left; (first | omega | (simp <;> omega))) | (with_reducible refine below_drewN ?_ _) | (with_reducible refine Below.drew ?_) | ((with_reducible refine Below.step (by assumption) ?_ ?_); rotate_left; (first | omega | (simp <;> omega)))))⟩
    | false =>
      rcases emp_cases name with ⟨rfl, hem⟩ | ⟨hne, hem⟩
      rotate_left
      ·
        have HJ : Hid (∀ wx, Calls Tryz.prog 36 #[str name] wx fun e w' => e = .returned (.bool false) ∧ Below wx.heap.size wx w') := Lib.hid (fun wx => by have := HI.out wx; rw [hq] at this; exact this)
        clear HI
        go_enter Tryz.func34, Tryz.ntmps34
        go_wp2_with ((first | (go_at_call 36; refine (HJ.out _).mono ?_; rintro e w' ⟨rfl, hb⟩; have hz := hb.size; (try simp at hz); have c0 := fun o => hb.cell (p := ⟨w.heap.size, o, none⟩) (by first | omega | (simp <;> omega)); have f0 := fun o => hb.frozen (p := ⟨w.heap.size, o, none⟩) (by first | omega | (simp <;> omega)); have z0 : w.heap.size < w'.heap.size := (by omega)) |  fail))
        (try (go_quiet (fail); go_wp2_with ((first | (go_at_call 36; refine (HJ.out _).mono ?_; rintro e w' ⟨rfl, hb⟩; have hz := hb.size; (try simp at hz); have c0 := fun o => hb.cell (p := ⟨w.heap.size, o, none⟩) (by first | omega | (simp <;> omega)); have f0 := fun o => hb.frozen (p := ⟨w.heap.size, o, none⟩) (by first | omega | (simp <;> omega)); have z0 : w.heap.size < w'.heap.size := (by omega)) |  fail))))
        (try (go_quiet (fail); go_wp2_with ((first | (go_at_call 36; refine (HJ.out _).mono ?_; rintro e w' ⟨rfl, hb⟩; have hz := hb.size; (try simp at hz); have c0 := fun o => hb.cell (p := ⟨w.heap.size, o, none⟩) (by first | omega | (simp <;> omega)); have f0 := fun o => hb.frozen (p := ⟨w.heap.size, o, none⟩) (by first | omega | (simp <;> omega)); have z0 : w.heap.size < w'.heap.size := (by omega)) |  fail))))
        go_ret
        exact ⟨ret_bool (by rw [fld]; simp [namedOp, hne]), (by repeat (first | (with_reducible exact Below.refl _ _) | (with_reducible assumption) | ((with_reducible refine Below.alloc ?_ ?_ _); rotate_left; (first | omega | (simp <;> omega))) | ((with_reducible refine Below.setCell ?_ ?_ _); rotate_left; (first | omega | (simp <;> omega))) | (with_reducible refine below_drewN ?_ _) | (with_reducible refine Below.drew ?_) | ((with_reducible refine Below.step (by assumption) ?_ ?_); rotate_left; (first | omega | (simp <;> omega)))))⟩
      by_cases hn : num = 0
      rotate_left
      ·
        have hnb : (num == 0) = false := by simpa using hn
        have HJ : Hid (∀ wx, Calls Tryz.prog 36 #[str []] wx fun e w' => e = .returned (.bool false) ∧ Below wx.heap.size wx w') := Lib.hid (fun wx => by have := HI.out wx; rw [hq] at this; exact this)
        clear HI
        go_enter Tryz.func34, Tryz.ntmps34
        go_wp2_with ((first | (go_at_call 36; refine (HJ.out _).mono ?_; rintro e w' ⟨rfl, hb⟩; have hz := hb.size; (try simp at hz); have c0 := fun o => hb.cell (p := ⟨w.heap.size, o, none⟩) (by first | omega | (simp <;> omega)); have f0 := fun o => hb.frozen (p := ⟨w.heap.size, o, none⟩) (by first | omega | (simp <;> omega)); have z0 : w.heap.size < w'.heap.size := (by omega)) |  fail))
        (try (go_quiet (fail); go_wp2_with ((first | (go_at_call 36; refine (HJ.out _).mono ?_; rintro e w' ⟨rfl, hb⟩; have hz := hb.size; (try simp at hz); have c0 := fun o => hb.cell (p := ⟨w.heap.size, o, none⟩) (by first | omega | (simp <;> omega)); have f0 := fun o => hb.frozen (p := ⟨w.heap.size, o, none⟩) (by first | omega | (simp <;> omega)); have z0 : w.heap.size < w'.heap.size := (by omega)) |  fail))))
        (try (go_quiet (fail); go_wp2_with ((first | (go_at_call 36; refine (HJ.out _).mono ?_; rintro e w' ⟨rfl, hb⟩; have hz := hb.size; (try simp at hz); have c0 := fun o => hb.cell (p := ⟨w.heap.size, o, none⟩) (by first | omega | (simp <;> omega)); have f0 := fun o => hb.frozen (p := ⟨w.heap.size, o, none⟩) (by first | omega | (simp <;> omega)); have z0 : w.heap.size < w'.heap.size := (by omega)) |  fail))))
        go_ret
        exact ⟨ret_bool (by rw [fld]; simp [namedOp, hn]), (by repeat (first | (with_reducible exact Below.refl _ _) | (with_reducible assumption) | ((with_reducible refine Below.alloc ?_ ?_ _); rotate_left; (first | omega | (simp <;> omega))) | ((with_reducible refine Below.setCell ?_ ?_ _); rotate_left; (first | omega | (simp <;> omega))) | (with_reducible refine below_drewN ?_ _) | (with_reducible refine Below.drew ?_) | ((with_reducible refine Below.step (by assumption) ?_ ?_); rotate_left; (first | omega | (simp <;> omega)))))⟩
      subst hn
      have HJ : Hid (∀ wx, Calls Tryz.prog 36 #[str []] wx fun e w' => e = .returned (.bool false) ∧ Below wx.heap.size wx w') := Lib.hid (fun wx => by have := HI.out wx; rw [hq] at this; exact this)
      clear HI
      go_enter Tryz.func34, Tryz.ntmps34
      go_wp2_with ((first | (go_at_call 36; refine (HJ.out _).mono ?_; rintro e w' ⟨rfl, hb⟩; have hz := hb.size; (try simp at hz); have c0 := fun o => hb.cell (p := ⟨w.heap.size, o, none⟩) (by first | omega | (simp <;> omega)); have f0 := fun o => hb.frozen (p := ⟨w.heap.size, o, none⟩) (by first | omega | (simp <;> omega)); have z0 : w.heap.size < w'.heap.size := (by omega)) |  fail))
      (try (go_quiet (fail); go_wp2_with ((first | (go_at_call 36; refine (HJ.out _).mono ?_; rintro e w' ⟨rfl, hb⟩; have hz := hb.size; (try simp at hz); have c0 := fun o => hb.cell (p := ⟨w.heap.size, o, none⟩) (by first | omega | (simp <;> omega)); have f0 := fun o => hb.frozen (p := ⟨w.heap.size, o, none⟩) (by first | omega | (simp <;> omega)); have z0 : w.heap.size < w'.heap.size := (by omega)) |  fail))))
      (try (go_quiet (fail); go_wp2_with ((first | (go_at_call 36; refine (HJ.out _).mono ?_; rintro e w' ⟨rfl, hb⟩; have hz := hb.size; (try simp at hz); have c0 := fun o => hb.cell (p := ⟨w.heap.size, o, none⟩) (by first | omega | (simp <;> omega)); have f0 := fun o => hb.frozen (p := ⟨w.heap.size, o, none⟩) (by first | omega | (simp <;> omega)); have z0 : w.heap.size < w'.heap.size := (by omega)) |  fail))))
      go_ret
      exact ⟨ret_bool (by rw [fld, sh5, len_is 2]; simp [namedOp]), (by repeat (first | (with_reducible exact Below.refl _ _) | (with_reducible assumption) | ((with_reducible refine Below.alloc ?_ ?_ _); rotate_left; (first | omega | (simp <;> omega))) | ((with_reducible refine Below.setCell ?_ ?_ _); rotate_left; (first | omega | (simp <;> omega))) | (with_reducible refine below_drewN ?_ _) | (with_reducible refine Below.drew ?_) | ((with_reducible refine Below.step (by assumption) ?_ ?_); rotate_left; (first | omega | (simp <;> omega)))))⟩
  · -- 6
    cases hq : isIdent name with
    | true =>
      have hne := ident_ne hq
      have HJ : Hid (∀ wx, Calls Tryz.prog 36 #[str name] wx fun e w' => e = .returned (.bool true) ∧ Below wx.heap.size wx w') := Lib.hid (fun wx => by have := HI.out wx; rw [hq] at this; exact this)
      clear HI
      go_enter Tryz.func34, Tryz.ntmps34
      go_wp2_with ((first | (go_at_call 36; refine (HJ.out _).mono ?_; rintro e w' ⟨rfl, hb⟩; have hz := hb.size; (try simp at hz); have c0 := fun o => hb.cell (p := ⟨w.heap.size, o, none⟩) (by first | omega | (simp <;> omega)); have f0 := fun o => hb.frozen (p := ⟨w.heap.size, o, none⟩) (by first | omega | (simp <;> omega)); have z0 : w.heap.size < w'.heap.size := (by omega)) |  fail))
      (try (go_quiet (fail); go_wp2_with ((first | (go_at_call 36; refine (HJ.out _).mono ?_; rintro e w' ⟨rfl, hb⟩; have hz := hb.size; (try simp at hz); have c0 := fun o => hb.cell (p := ⟨w.heap.size, o, none⟩) (by first | omega | (simp <;> omega)); have f0 := fun o => hb.frozen (p := ⟨w.heap.size, o, none⟩) (by first | omega | (simp <;> omega)); have z0 : w.heap.size < w'.heap.size := (by omega)) |  fail))))
      (try (go_quiet (fail); go_wp2_with ((first | (go_at_call 36; refine (HJ.out _).mono ?_; rintro e w' ⟨rfl, hb⟩; have hz := hb.size; (try simp at hz); have c0 := fun o => hb.cell (p := ⟨w.heap.size, o, none⟩) (by first | omega | (simp <;> omega)); have f0 := fun o => hb.frozen (p := ⟨w.heap.size, o, none⟩) (by first | omega | (simp <;> omega)); have z0 : w.heap.size < w'.heap.size := (by omega)) |  fail))))
      go_ret
      exact ⟨ret_bool (by rw [fld]; simp [namedOp, hne]), (by repeat (first | (with_reducible exact Below.refl _ _) | (with_reducible assumption) | ((with_reducible refine Below.alloc ?_ ?_ _); rotate_left; (first | omega | (simp <;> omega))) | ((with_reducible refine Below.setCell ?_ ?_ _); rotate_left; (first | omega | (simp <;> omega))) | (with_reducible refine below_drewN ?_ _) | (with_reducible refine Below.drew ?_) | ((with_reducible refine Below.step (by assumption) ?_ ?_); rotate_left; (first | omega | (simp <;> omega)))))⟩
    | false =>
      rcases emp_cases name with ⟨rfl, hem⟩ | ⟨hne, hem⟩
      rotate_left
      ·
        have HJ : Hid (∀ wx, Calls Tryz.prog 36 #[str name] wx fun e w' => e = .returned (.bool false) ∧ Below wx.heap.size wx w') := Lib.hid (fun wx => by have := HI.out wx; rw [hq] at this; exact this)
        clear HI
        go_enter Tryz.func34, Tryz.ntmps34
        go_wp2_with ((first | (go_at_call 36; refine (HJ.out _).mono ?_; rintro e w' ⟨rfl, hb⟩; have hz := hb.size; (try simp at hz); have c0 := fun o => hb.cell (p := ⟨w.heap.size, o, none⟩) (by first | omega | (simp <;> omega)); have f0 := fun o => hb.frozen (p := ⟨w.heap.size, o, none⟩) (by first | omega | (simp <;> omega)); have z0 : w.heap.size < w'.heap.size := (by omega)) |  fail))
        (try (go_quiet (fail); go_wp2_with ((first | (go_at_call 36; refine (HJ.out _).mono ?_; rintro e w' ⟨rfl, hb⟩; have hz := hb.size; (try simp at hz); have c0 := fun o => hb.cell (p := ⟨w.heap.size, o, none⟩) (by first | omega | (simp <;> omega)); have f0 := fun o => hb.frozen (p := ⟨w.heap.size, o, none⟩) (by first | omega | (simp <;> omega)); have z0 : w.heap.size < w'.heap.size := (by omega)) |  fail))))
        (try (go_quiet (fail); go_wp2_with ((first | (go_at_call 36; refine (HJ.out _).mono ?_; rintro e w' ⟨rfl, hb⟩; have hz := hb.size; (try simp at hz); have c0 := fun o => hb.cell (p := ⟨w.heap.size, o, none⟩) (by first | omega | (simp <;> omega)); have f0 := fun o => hb.frozen (p := ⟨w.heap.size, o, none⟩) (by first | omega | (simp <;> omega)); have z0 : w.heap.size < w'.heap.size := (by omega)) |  fail))))
        go_ret
        exact ⟨ret_bool (by rw [fld]; simp [namedOp, hne]), (by repeat (first | (with_reducible exact Below.refl _ _) | (with_reducible assumption) | ((with_reducible refine Below.alloc ?_ ?_ _); rotate_left; (first | omega | (simp <;> omega))) | ((with_reducible refine Below.setCell ?_ ?_ _); rotate_left; (first | omega | (simp <;> omega))) | (with_reducible refine below_drewN ?_ _) | (with_reducible refine Below.drew ?_) | ((with_reducible refine Below.step (by assumption) ?_ ?_); rotate_left; (first | omega | (simp <;> omega)))))⟩
      by_cases hn : num = 0
      rotate_left
      ·
        have hnb : (num == 0) = false := by simpa using hn
        have HJ : Hid (∀ wx, Calls Tryz.prog 36 #[str []] wx fun e w' => e = .returned (.bool false) ∧ Below wx.heap.size wx w') := Lib.hid (fun wx => by have := HI.out wx; rw [hq] at this; exact this)
        clear HI
        go_enter Tryz.func34, Tryz.ntmps34
        go_wp2_with ((first | (go_at_call 36; refine (HJ.out _).mono ?_; rintro e w' ⟨rfl, hb⟩; have hz := hb.size; (try simp at hz); have c0 := fun o => hb.cell (p := ⟨w.heap.size, o, none⟩) (by first | omega | (simp <;> omega)); have f0 := fun o => hb.frozen (p := ⟨w.heap.size, o, none⟩) (by first | omega | (simp <;> omega)); have z0 : w.heap.size < w'.heap.size := (by omega)) |  fail))
        (try (go_quiet (fail); go_wp2_with ((first | (go_at_call 36; refine (HJ.out _).mono ?_; rintro e w' ⟨rfl, hb⟩; have hz := hb.size; (try simp at hz); have c0 := fun o => hb.cell (p := ⟨w.heap.size, o, none⟩) (by first | omega | (simp <;> omega)); have f0 := fun o => hb.frozen (p := ⟨w.heap.size, o, none⟩) (by first | omega | (simp <;> omega)); have z0 : w.heap.size < w'.heap.size := (by omega)) |  fail))))
        (try (go_quiet (fail); go_wp2_with ((first | (go_at_call 36; refine (HJ.out _).mono ?_; rintro e w' ⟨rfl, hb⟩; have hz := hb.size; (try simp at hz); have c0 := fun o => hb.cell (p := ⟨w.heap.size, o, none⟩) (by first | omega | (simp <;> omega)); have f0 := fun o => hb.frozen (p := ⟨w.heap.size, o, none⟩) (by first | omega | (simp <;> omega)); have z0 : w.heap.size < w'.heap.size := (by omega)) |  fail))))
        go_ret
        exact ⟨ret_bool (by rw [fld]; simp [namedOp, hn]), (by repeat (first | (with_reducible exact Below.refl _ _) | (with_reducible assumption) | ((with_reducible refine Below.alloc ?_ ?_ _); rotate_left; (first | omega | (simp <;> omega))) | ((with_reducible refine Below.setCell ?_ ?_ _); rotate_left; (first | omega | (simp <;> omega))) | (with_reducible refine below_drewN ?_ _) | (with_reducible refine Below.drew ?_) | ((with_reducible refine Below.step (by assumption) ?_ ?_); rotate_left; (first | omega | (simp <;> omega)))))⟩
      subst hn
      have HJ : Hid (∀ wx, Calls Tryz.prog 36 #[str []] wx fun e w' => e = .returned (.bool false) ∧ Below wx.heap.size wx w') := Lib.hid (fun wx => by have := HI.out wx; rw [hq] at this; exact this)
      clear HI
      go_enter Tryz.func34, Tryz.ntmps34
      go_wp2_with ((first | (go_at_call 36; refine (HJ.out _).mono ?_; rintro e w' ⟨rfl, hb⟩; have hz := hb.size; (try simp at hz); have c0 := fun o => hb.cell (p := ⟨w.heap.size, o, none⟩) (by first | omega | (simp <;> omega)); have f0 := fun o => hb.frozen (p := ⟨w.heap.size, o, none⟩) (by first | omega | (simp <;> omega)); have z0 : w.heap.size < w'.heap.size := (by omega)) |  fail))
      (try (go_quiet (fail); go_wp2_with ((first | (go_at_call 36; refine (HJ.out _).mono ?_; rintro e w' ⟨rfl, hb⟩; have hz := hb.size; (try simp at hz); have c0 := fun o => hb.cell (p := ⟨w.heap.size, o, none⟩) (by first | omega | (simp <;> omega)); have f0 := fun o => hb.frozen (p := ⟨w.heap.size, o, none⟩) (by first | omega | (simp <;> omega)); have z0 : w.heap.size < w'.heap.size := (by omega)) |  fail))))
      (try (go_quiet (fail); go_wp2_with ((first | (go_at_call 36; refine (HJ.out _).mono ?_; rintro e w' ⟨rfl, hb⟩; have hz := hb.size; (try simp at hz); have c0 := fun o => hb.cell (p := ⟨w.heap.size, o, none⟩) (by first | omega | (simp <;> omega)); have f0 := fun o => hb.frozen (p := ⟨w.heap.size, o, none⟩) (by first | omega | (simp <;> omega)); have z0 : w.heap.size < w'.heap.size := (by omega)) |  fail))))
      go_ret
      exact ⟨ret_bool (by rw [fld, sh6, len_is 2]; simp [namedOp]), (by repeat (first | (with_reducible exact Below.refl _ _) | (with_reducible assumption) | ((with_reducible refine Below.alloc ?_ ?_ _); rotate_left; (first | omega | (simp <;> omega))) | ((with_reducible refine Below.setCell ?_ ?_ _); rotate_left; (first | omega | (simp <;> omega))) | (with_reducible refine below_drewN ?_ _) | (with_reducible refine Below.drew ?_) | ((with_reducible refine Below.step (by assumption) ?_ ?_); rotate_left; (first | omega | (simp <;> omega)))))⟩
  · -- 7
    cases hq : isIdent name with
    | true =>
      have hne := ident_ne hq
      have HJ : Hid (∀ wx, Calls Tryz.prog 36 #[str name] wx fun e w' => e = .returned (.bool true) ∧ Below wx.heap.size wx w') := Lib.hid (fun wx => by have := HI.out wx; rw [hq] at this; exact this)
      clear HI
      go_enter Tryz.func34, Tryz.ntmps34
      go_wp2_with ((first | (go_at_call 36; refine (HJ.out _).mono ?_; rintro e w' ⟨rfl, hb⟩; have hz := hb.size; (try simp at hz); have c0 := fun o => hb.cell (p := ⟨w.heap.size, o, none⟩) (by first | omega | (simp <;> omega)); have f0 := fun o => hb.frozen (p := ⟨w.heap.size, o, none⟩) (by first | omega | (simp <;> omega)); have z0 : w.heap.size < w'.heap.size := (by omega)) |  fail))
      (try (go_quiet (fail); go_wp2_with ((first | (go_at_call 36; refine (HJ.out _).mono ?_; rintro e w' ⟨rfl, hb⟩; have hz := hb.size; (try simp at hz); have c0 := fun o => hb.cell (p := ⟨w.heap.size, o, none⟩) (by first | omega | (simp <;> omega)); have f0 := fun o => hb.frozen (p := ⟨w.heap.size, o, none⟩) (by first | omega | (simp <;> omega)); have z0 : w.heap.size < w'.heap.size := (by omega)) |  fail))))
      (try (go_quiet (fail); go_wp2_with ((first | (go_at_call 36; refine (HJ.out _).mono ?_; rintro e w' ⟨rfl, hb⟩; have hz := hb.size; (try simp at hz); have c0 := fun o => hb.cell (p := ⟨w.heap.size, o, none⟩) (by first | omega | (simp <;> omega)); have f0 := fun o => hb.frozen (p := ⟨w.heap.size, o, none⟩) (by first | omega | (simp <;> omega)); have z0 : w.heap.size < w'.heap.size := (by omega)) |  fail))))
      go_ret
      exact ⟨ret_bool (by rw [fld]; simp [namedOp, hne]), (by repeat (first | (with_reducible exact Below.refl _ _) | (with_reducible assumption) | ((with_reducible refine Below.alloc ?_ ?_ _); rotate_left; (first | omega | (simp <;> omega))) | ((with_reducible refine Below.setCell ?_ ?_ _); rotate_left; (first | omega | (simp <;> omega))) | (with_reducible refine below_drewN ?_ _) | (with_reducible refine Below.drew ?_) | ((with_reducible refine Below.step (by assumption) ?_ ?_); rotate_left; (first | omega | (simp <;> omega)))))⟩
    | false =>
      rcases emp_cases name with ⟨rfl, hem⟩ | ⟨hne, hem⟩
      rotate_left
      ·
        have HJ : Hid (∀ wx, Calls Tryz.prog 36 #[str name] wx fun e w' => e = .returned (.bool false) ∧ Below wx.heap.size wx w') := Lib.hid (fun wx => by have := HI.out wx; rw [hq] at this; exact this)
        clear HI
        go_enter Tryz.func34, Tryz.ntmps34
        go_wp2_with ((first | (go_at_call 36; refine (HJ.out _).mono ?_; rintro e w' ⟨rfl, hb⟩; have hz := hb.size; (try simp at hz); have c0 := fun o => hb.cell (p := ⟨w.heap.size, o, none⟩) (by first | omega | (simp <;> omega)); have f0 := fun o => hb.frozen (p := ⟨w.heap.size, o, none⟩) (by first | omega | (simp <;> omega)); have z0 : w.heap.size < w'.heap.size := (by omega)) |  fail))
        (try (go_quiet (fail); go_wp2_with ((first | (go_at_call 36; refine (HJ.out _).mono ?_; rintro e w' ⟨rfl, hb⟩; have hz := hb.size; (try simp at hz); have c0 := fun o => hb.cell (p := ⟨w.heap.size, o, none⟩) (by first | omega | (simp <;> omega)); have f0 := fun o => hb.frozen (p := ⟨w.heap.size, o, none⟩) (by first | omega | (simp <;> omega)); have z0 : w.heap.size < w'.heap.size := (by omega)) |  fail))))
        (try (go_quiet (fail); go_wp2_with ((first | (go_at_call 36; refine (HJ.out _).mono ?_; rintro e w' ⟨rfl, hb⟩; have hz := hb.size; (try simp at hz); have c0 := fun o => hb.cell (p := ⟨w.heap.size, o, none⟩) (by first | omega | (simp <;> omega)); have f0 := fun o => hb.frozen (p := ⟨w.heap.size, o, none⟩) (by first | omega | (simp <;> omega)); have z0 : w.heap.size < w'.heap.size := (by omega)) |  fail))))
        go_ret
        exact ⟨ret_bool (by rw [fld]; simp [namedOp, hne]), (by repeat (first | (with_reducible exact Below.refl _ _) | (with_reducible assumption) | ((with_reducible refine Below.alloc ?_ ?_ _); rotate_left; (first | omega | (simp <;> omega))) | ((with_reducible refine Below.setCell ?_ ?_ _); rotate_left; (first | omega | (simp <;> omega))) | (with_reducible refine below_drewN ?_ _) | (with_reducible refine Below.drew ?_) | ((with_reducible refine Below.step (by assumption) ?_ ?_); rotate_left; (first | omega | (simp <;> omega)))))⟩
      by_cases hn : num = 0
      rotate_left
      ·
        have hnb : (num == 0) = false := by simpa using hn
        have HJ : Hid (∀ wx, Calls Tryz.prog 36 #[str []] wx fun e w' => e = .returned (.bool false) ∧ Below wx.heap.size wx w') := Lib.hid (fun wx => by have := HI.out wx; rw [hq] at this; exact this)
        clear HI
        go_enter Tryz.func34, Tryz.ntmps34
        go_wp2_with ((first | (go_at_call 36; refine (HJ.out _).mono ?_; rintro e w' ⟨rfl, hb⟩; have hz := hb.size; (try simp at hz); have c0 := fun o => hb.cell (p := ⟨w.heap.size, o, none⟩) (by first | omega | (simp <;> omega)); have f0 := fun o => hb.frozen (p := ⟨w.heap.size, o, none⟩) (by first | omega | (simp <;> omega)); have z0 : w.heap.size < w'.heap.size := (by omega)) |  fail))
        (try (go_quiet (fail); go_wp2_with ((first | (go_at_call 36; refine (HJ.out _).mono ?_; rintro e w' ⟨rfl, hb⟩; have hz := hb.size; (try simp at hz); have c0 := fun o => hb.cell (p := ⟨w.heap.size, o, none⟩) (by first | omega | (simp <;> omega)); have f0 := fun o => hb.frozen (p := ⟨w.heap.size, o, none⟩) (by first | omega | (simp <;> omega)); have z0 : w.heap.size < w'.heap.size := (by omega)) |  fail))))
        (try (go_quiet (fail); go_wp2_with ((first | (go_at_call 36; refine (HJ.out _).mono ?_; rintro e w' ⟨rfl, hb⟩; have hz := hb.size; (try simp at hz); have c0 := fun o => hb.cell (p := ⟨w.heap.size, o, none⟩) (by first | omega | (simp <;> omega)); have f0 := fun o => hb.frozen (p := ⟨w.heap.size, o, none⟩) (by first | omega | (simp <;> omega)); have z0 : w.heap.size < w'.heap.size := (by omega)) |  fail))))
        go_ret
        exact ⟨ret_bool (by rw [fld]; simp [namedOp, hn]), (by repeat (first | (with_reducible exact Below.refl _ _) | (with_reducible assumption) | ((with_reducible refine Below.alloc ?_ ?_ _); rotate_left; (first | omega | (simp <;> omega))) | ((with_reducible refine Below.setCell ?_ ?_ _); rotate_left; (first | omega | (simp <;> omega))) | (with_reducible refine below_drewN ?_ _) | (with_reducible refine Below.drew ?_) | ((with_reducible refine Below.step (by assumption) ?_ ?_); rotate_left; (first | omega | (simp <;> omega)))))⟩
      subst hn
      have HJ : Hid (∀ wx, Calls Tryz.prog 36 #[str []] wx fun e w' => e = .returned (.bool false) ∧ Below wx.heap.size wx w') := Lib.hid (fun wx => by have := HI.out wx; rw [hq] at this; exact this)
      clear HI
      go_enter Tryz.func34, Tryz.ntmps34
      go_wp2_with ((first | (go_at_call 36; refine (HJ.out _).mono ?_; rintro e w' ⟨rfl, hb⟩; have hz := hb.size; (try simp at hz); have c0 := fun o => hb.cell (p := ⟨w.heap.size, o, none⟩) (by first | omega | (simp <;> omega)); have f0 := fun o => hb.frozen (p := ⟨w.heap.size, o, none⟩) (by first | omega | (simp <;> omega)); have z0 : w.heap.size < w'.heap.size := (by omega)) |  fail))
      (try (go_quiet (fail); go_wp2_with ((first | (go_at_call 36; refine (HJ.out _).mono ?_; rintro e w' ⟨rfl, hb⟩; have hz := hb.size; (try simp at hz); have c0 := fun o => hb.cell (p := ⟨w.heap.size, o, none⟩) (by first | omega | (simp <;> omega)); have f0 := fun o => hb.frozen (p := ⟨w.heap.size, o, none⟩) (by first | omega | (simp <;> omega)); have z0 : w.heap.size < w'.heap.size := (by omega)) |  fail))))
      (try (go_quiet (fail); go_wp2_with ((first | (go_at_call 36; refine (HJ.out _).mono ?_; rintro e w' ⟨rfl, hb⟩; have hz := hb.size; (try simp at hz); have c0 := fun o => hb.cell (p := ⟨w.heap.size, o, none⟩) (by first | omega | (simp <;> omega)); have f0 := fun o => hb.frozen (p := ⟨w.heap.size, o, none⟩) (by first | omega | (simp <;> omega)); have z0 : w.heap.size < w'.heap.size := (by omega)) |  fail))))
      go_ret
      exact ⟨ret_bool (by rw [fld, sh7, len_is 2]; simp [namedOp]), (by repeat (first | (with_reducible exact Below.refl _ _) | (with_reducible assumption) | ((with_reducible refine Below.alloc ?_ ?_ _); rotate_left; (first | omega | (simp <;> omega))) | ((with_reducible refine Below.setCell ?_ ?_ _); rotate_left; (first | omega | (simp <;> omega))) | (with_reducible refine below_drewN ?_ _) | (with_reducible refine Below.drew ?_) | ((with_reducible refine Below.step (by assumption) ?_ ?_); rotate_left; (first | omega | (simp <;> omega)))))⟩
  · -- 9
    have e1 : (op == 1) = false := by simp; omega
    have e2 : (op == 2) = false := by simp; omega
    have e3 : (op == 3) = false := by simp; omega
    have e4 : (op == 4) = false := by simp; omega
    have e5 : (op == 5) = false := by simp; omega
    have e6 : (op == 6) = false := by simp; omega
    have e7 : (op == 7) = false := by simp; omega
    have e8 : (op == 8) = false := by simp; omega
    have f1 : ¬ op = 1 := by omega
    have n9 := nm9 h9
    have s9 := sh9 h9 l.length
    cases hq : isIdent name with
    | true =>
      have hne := ident_ne hq
      have HJ : Hid (∀ wx, Calls Tryz.prog 36 #[str name] wx fun e w' => e = .returned (.bool true) ∧ Below wx.heap.size wx w') := Lib.hid (fun wx => by have := HI.out wx; rw [hq] at this; exact this)
      clear HI
      go_enter Tryz.func34, Tryz.ntmps34
      go_wp2_with ((first | (go_at_call 36; refine (HJ.out _).mono ?_; rintro e w' ⟨rfl, hb⟩; have hz := hb.size; (try simp at hz); have c0 := fun o => hb.cell (p := ⟨w.heap.size, o, none⟩) (by first | omega | (simp <;> omega)); have f0 := fun o => hb.frozen (p := ⟨w.heap.size, o, none⟩) (by first | omega | (simp <;> omega)); have z0 : w.heap.size < w'.heap.size := (by omega)) |  fail))
      (try (go_quiet (fail); go_wp2_with ((first | (go_at_call 36; refine (HJ.out _).mono ?_; rintro e w' ⟨rfl, hb⟩; have hz := hb.size; (try simp at hz); have c0 := fun o => hb.cell (p := ⟨w.heap.size, o, none⟩) (by first | omega | (simp <;> omega)); have f0 := fun o => hb.frozen (p := ⟨w.heap.size, o, none⟩) (by first | omega | (simp <;> omega)); have z0 : w.heap.size < w'.heap.size := (by omega)) |  fail))))
      (try (go_quiet (fail); go_wp2_with ((first | (go_at_call 36; refine (HJ.out _).mono ?_; rintro e w' ⟨rfl, hb⟩; have hz := hb.size; (try simp at hz); have c0 := fun o => hb.cell (p := ⟨w.heap.size, o, none⟩) (by first | omega | (simp <;> omega)); have f0 := fun o => hb.frozen (p := ⟨w.heap.size, o, none⟩) (by first | omega | (simp <;> omega)); have z0 : w.heap.size < w'.heap.size := (by omega)) |  fail))))
      all_goals go_ret
      all_goals exact ⟨ret_bool (by rw [fld]; simp [n9, hne]), (by repeat (first | (with_reducible exact Below.refl _ _) | (with_reducible assumption) | ((with_reducible refine Below.alloc ?_ ?_ _); rotate_left; (first | omega | (simp <;> omega))) | ((with_reducible refine Below.setCell ?_ ?_ _); rotate_left; (first | omega | (simp <;> omega))) | (with_reducible refine below_drewN ?_ _) | (with_reducible refine Below.drew ?_) | ((with_reducible refine Below.step (by assumption) ?_ ?_); rotate_left; (first | omega | (simp <;> omega)))))⟩
    | false =>
      rcases emp_cases name with ⟨rfl, hem⟩ | ⟨hne, hem⟩
      rotate_left
      ·
        have HJ : Hid (∀ wx, Calls Tryz.prog 36 #[str name] wx fun e w' => e = .returned (.bool false) ∧ Below wx.heap.size wx w') := Lib.hid (fun wx => by have := HI.out wx; rw [hq] at this; exact this)
        clear HI
        go_enter Tryz.func34, Tryz.ntmps34
        go_wp2_with ((first | (go_at_call 36; refine (HJ.out _).mono ?_; rintro e w' ⟨rfl, hb⟩; have hz := hb.size; (try simp at hz); have c0 := fun o => hb.cell (p := ⟨w.heap.size, o, none⟩) (by first | omega | (simp <;> omega)); have f0 := fun o => hb.frozen (p := ⟨w.heap.size, o, none⟩) (by first | omega | (simp <;> omega)); have z0 : w.heap.size < w'.heap.size := (by omega)) |  fail))
        (try (go_quiet (fail); go_wp2_with ((first | (go_at_call 36; refine (HJ.out _).mono ?_; rintro e w' ⟨rfl, hb⟩; have hz := hb.size; (try simp at hz); have c0 := fun o => hb.cell (p := ⟨w.heap.size, o, none⟩) (by first | omega | (simp <;> omega)); have f0 := fun o => hb.frozen (p := ⟨w.heap.size, o, none⟩) (by first | omega | (simp <;> omega)); have z0 : w.heap.size < w'.heap.size := (by omega)) |  fail))))
        (try (go_quiet (fail); go_wp2_with ((first | (go_at_call 36; refine (HJ.out _).mono ?_; rintro e w' ⟨rfl, hb⟩; have hz := hb.size; (try simp at hz); have c0 := fun o => hb.cell (p := ⟨w.heap.size, o, none⟩) (by first | omega | (simp <;> omega)); have f0 := fun o => hb.frozen (p := ⟨w.heap.size, o, none⟩) (by first | omega | (simp <;> omega)); have z0 : w.heap.size < w'.heap.size := (by omega)) |  fail))))
        all_goals go_ret
        all_goals exact ⟨ret_bool (by rw [fld]; simp [n9, hne]), (by repeat (first | (with_reducible exact Below.refl _ _) | (with_reducible assumption) | ((with_reducible refine Below.alloc ?_ ?_ _); rotate_left; (first | omega | (simp <;> omega))) | ((with_reducible refine Below.setCell ?_ ?_ _); rotate_left; (first | omega | (simp <;> omega))) | (with_reducible refine below_drewN ?_ _) | (with_reducible refine Below.drew ?_) | ((with_reducible refine Below.step (by assumption) ?_ ?_); rotate_left; (first | omega | (simp <;> omega)))))⟩
      by_cases hn : num = 0
      rotate_left
      ·
        have hnb : (num == 0) = false := by simpa using hn
        have HJ : Hid (∀ wx, Calls Tryz.prog 36 #[str []] wx fun e w' => e = .returned (.bool false) ∧ Below wx.heap.size wx w') := Lib.hid (fun wx => by have := HI.out wx; rw [hq] at this; exact this)
        clear HI
        go_enter Tryz.func34, Tryz.ntmps34
        go_wp2_with ((first | (go_at_call 36; refine (HJ.out _).mono ?_; rintro e w' ⟨rfl, hb⟩; have hz := hb.size; (try simp at hz); have c0 := fun o => hb.cell (p := ⟨w.heap.size, o, none⟩) (by first | omega | (simp <;> omega)); have f0 := fun o => hb.frozen (p := ⟨w.heap.size, o, none⟩) (by first | omega | (simp <;> omega)); have z0 : w.heap.size < w'.heap.size := (by omega)) |  fail))
        (try (go_quiet (fail); go_wp2_with ((first | (go_at_call 36; refine (HJ.out _).mono ?_; rintro e w' ⟨rfl, hb⟩; have hz := hb.size; (try simp at hz); have c0 := fun o => hb.cell (p := ⟨w.heap.size, o, none⟩) (by first | omega | (simp <;> omega)); have f0 := fun o => hb.frozen (p := ⟨w.heap.size, o, none⟩) (by first | omega | (simp <;> omega)); have z0 : w.heap.size < w'.heap.size := (by omega)) |  fail))))
        (try (go_quiet (fail); go_wp2_with ((first | (go_at_call 36; refine (HJ.out _).mono ?_; rintro e w' ⟨rfl, hb⟩; have hz := hb.size; (try simp at hz); have c0 := fun o => hb.cell (p := ⟨w.heap.size, o, none⟩) (by first | omega | (simp <;> omega)); have f0 := fun o => hb.frozen (p := ⟨w.heap.size, o, none⟩) (by first | omega | (simp <;> omega)); have z0 : w.heap.size < w'.heap.size := (by omega)) |  fail))))
        all_goals go_ret
        all_goals exact ⟨ret_bool (by rw [fld]; simp [n9, hn, f1]), (by repeat (first | (with_reducible exact Below.refl _ _) | (with_reducible assumption) | ((with_reducible refine Below.alloc ?_ ?_ _); rotate_left; (first | omega | (simp <;> omega))) | ((with_reducible refine Below.setCell ?_ ?_ _); rotate_left; (first | omega | (simp <;> omega))) | (with_reducible refine below_drewN ?_ _) | (with_reducible refine Below.drew ?_) | ((with_reducible refine Below.step (by assumption) ?_ ?_); rotate_left; (first | omega | (simp <;> omega)))))⟩
      subst hn
      have HJ : Hid (∀ wx, Calls Tryz.prog 36 #[str []] wx fun e w' => e = .returned (.bool false) ∧ Below wx.heap.size wx w') := Lib.hid (fun wx => by have := HI.out wx; rw [hq] at this; exact this)
      clear HI
      go_enter Tryz.func34, Tryz.ntmps34
      go_wp2_with ((first | (go_at_call 36; refine (HJ.out _).mono ?_; rintro e w' ⟨rfl, hb⟩; have hz := hb.size; (try simp at hz); have c0 := fun o => hb.cell (p := ⟨w.heap.size, o, none⟩) (by first | omega | (simp <;> omega)); have f0 := fun o => hb.frozen (p := ⟨w.heap.size, o, none⟩) (by first | omega | (simp <;> omega)); have z0 : w.heap.size < w'.heap.size := (by omega)) |  fail))
      (try (go_quiet (fail); go_wp2_with ((first | (go_at_call 36; refine (HJ.out _).mono ?_; rintro e w' ⟨rfl, hb⟩; have hz := hb.size; (try simp at hz); have c0 := fun o => hb.cell (p := ⟨w.heap.size, o, none⟩) (by first | omega | (simp <;> omega)); have f0 := fun o => hb.frozen (p := ⟨w.heap.size, o, none⟩) (by first | omega | (simp <;> omega)); have z0 : w.heap.size < w'.heap.size := (by omega)) |  fail))))
      (try (go_quiet (fail); go_wp2_with ((first | (go_at_call 36; refine (HJ.out _).mono ?_; rintro e w' ⟨rfl, hb⟩; have hz := hb.size; (try simp at hz); have c0 := fun o => hb.cell (p := ⟨w.heap.size, o, none⟩) (by first | omega | (simp <;> omega)); have f0 := fun o => hb.frozen (p := ⟨w.heap.size, o, none⟩) (by first | omega | (simp <;> omega)); have z0 : w.heap.size < w'.heap.size := (by omega)) |  fail))))
      all_goals go_ret
      all_goals exact ⟨ret_bool (by rw [fld]; simp [n9, s9, f1]), (by repeat (first | (with_reducible exact Below.refl _ _) | (with_reducible assumption) | ((with_reducible refine Below.alloc ?_ ?_ _); rotate_left; (first | omega | (simp <;> omega))) | ((with_reducible refine Below.setCell ?_ ?_ _); rotate_left; (first | omega | (simp <;> omega))) | (with_reducible refine below_drewN ?_ _) | (with_reducible refine Below.drew ?_) | ((with_reducible refine Below.step (by assumption) ?_ ?_); rotate_left; (first | omega | (simp <;> omega)))))⟩
end Go.Proofs.YtnlbojckobgjpaaGreatDoor
