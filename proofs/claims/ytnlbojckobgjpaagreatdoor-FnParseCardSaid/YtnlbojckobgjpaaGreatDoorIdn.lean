/- IsIdentifier of the reference (bytes) and of the program (a range over runes). -/
import Derived.Test.YtnlbojckobgjpaaGreatDoorMgB
import Derived.Test.YtnlbojckobgjpaaGreatDoorMgA
import Derived.Laws.RangeAny
import Derived.LoopTactic
set_option linter.unusedVariables false
set_option linter.unusedSimpArgs false
namespace Go.Proofs.YtnlbojckobgjpaaGreatDoor
open Go.RowKit Go.Lib
set_option maxRecDepth 100000
theorem byte_cases (x : UInt8) (k : Nat) : ((97 : Int) ≤ x.toNat ∧ (x.toNat : Int) ≤ 122) ∨ ((x.toNat : Int) < 97 ∧ k = 0) ∨ ((x.toNat : Int) < 97 ∧ 0 < k ∧ (x.toNat : Int) < 48) ∨ ((x.toNat : Int) < 97 ∧ 0 < k ∧ (57 : Int) < x.toNat) ∨ ((x.toNat : Int) < 97 ∧ 0 < k ∧ (48 : Int) ≤ x.toNat ∧ (x.toNat : Int) ≤ 57) ∨ ((122 : Int) < x.toNat ∧ k = 0) ∨ ((122 : Int) < x.toNat ∧ 0 < k) := by omega
theorem id_yes {l : List UInt8} {k : Nat} (h : k < l.length) (hi : identTo l k = true) (hx : (97 ≤ l[k].toNat ∧ l[k].toNat ≤ 122) ∨ (0 < k ∧ 48 ≤ l[k].toNat ∧ l[k].toNat ≤ 57)) : identTo l (k + 1) = true := by
  rw [identTo_succ h, hi]
  unfold letterB digitB
  rcases hx with hx | ⟨h1, h2⟩
  · simp [hx]
  · simp [h2]; omega
theorem id_no {l : List UInt8} {k : Nat} (h : k < l.length) (h1 : ¬ (97 ≤ l[k].toNat ∧ l[k].toNat ≤ 122)) (h2 : ¬ (0 < k ∧ 48 ≤ l[k].toNat ∧ l[k].toNat ≤ 57)) : isIdent l = false := by
  refine isIdent_no h ?_
  unfold letterB digitB
  simp only [Bool.or_eq_false_iff, Bool.and_eq_false_iff, decide_eq_false_iff_not]
  refine ⟨h1, ?_⟩
  by_cases hk : k = 0
  · right; simpa using hk
  · left; intro h3; exact h2 ⟨by omega, h3⟩
theorem id_end {l : List UInt8} (h : identTo l l.length = true) : isIdent l = decide (1 ≤ l.length ∧ l.length ≤ 8) := by unfold isIdent; rw [h]; rfl
set_option maxHeartbeats 4000000 in
theorem S_IsIdentifier {l : List UInt8} (w : World) (hl : l.length ≤ maxLen) :
    Calls Tryz.prog 97 #[str l] w fun e w' => e = .returned (.bool (isIdent l)) ∧ w = w' := by
  unfold maxLen at hl
  go_enter Tryz.func97, Tryz.ntmps97
  go_wp2_with fail
  go_loop [3] (fun i => ∃ k : Nat, k ≤ l.length ∧ i = .int .i64 k ∧ identTo l k = true) (fun i => l.length - (RowKit.intOf i).toNat)
  case atStart => exact ⟨0, Nat.zero_le _, rfl, rfl⟩
  case round =>
    obtain ⟨k, hk, rfl, hi⟩ := hrel
    have HI := Lib.hid hi
    clear hi
    by_cases hlt : k < l.length
    · obtain ⟨x, hx⟩ : ∃ x, l[k] = x := ⟨_, rfl⟩
      have hat : ∀ hh : k < ByteArray.size ⟨l.toArray⟩, ({ data := l.toArray } : ByteArray)[k]'hh = x := fun hh => hx
      have HX := Lib.hid hx
      have i2 : (k : Int) < l.length := by omega
      clear hx
      rcases byte_cases x k with ⟨h1, h2⟩ | ⟨h1, rfl⟩ | ⟨h1, h2, h3⟩ | ⟨h1, h2, h3⟩ | ⟨h1, h2, h3, h4⟩ | ⟨h1, rfl⟩ | ⟨h1, h2⟩
      · go_wp2_with fail
        go_round
        case rel => exact ⟨k + 1, by omega, by go_num, id_yes hlt HI.out (by rw [HX.out]; omega)⟩
        case measure => simp [RowKit.intOf]; omega
      · have n1 : ¬ (97 : Int) ≤ x.toNat := by omega
        go_wp2_with fail
        go_ret
        exact ⟨ret_bool (id_no hlt (by rw [HX.out]; omega) (by omega)).symm, rfl⟩
      · have n1 : ¬ (97 : Int) ≤ x.toNat := by omega
        have k0 : ¬ (k : Int) = 0 := by omega
        go_wp2_with fail
        go_ret
        exact ⟨ret_bool (id_no hlt (by rw [HX.out]; omega) (by rw [HX.out]; omega)).symm, rfl⟩
      · have n1 : ¬ (97 : Int) ≤ x.toNat := by omega
        have n2 : ¬ (x.toNat : Int) < 48 := by omega
        have k0 : ¬ (k : Int) = 0 := by omega
        go_wp2_with fail
        go_ret
        exact ⟨ret_bool (id_no hlt (by rw [HX.out]; omega) (by rw [HX.out]; omega)).symm, rfl⟩
      · have n1 : ¬ (97 : Int) ≤ x.toNat := by omega
        have n2 : ¬ (x.toNat : Int) < 48 := by omega
        have n3 : ¬ (57 : Int) < x.toNat := by omega
        have k0 : ¬ (k : Int) = 0 := by omega
        go_wp2_with fail
        go_round
        case rel => exact ⟨k + 1, by omega, by go_num, id_yes hlt HI.out (by rw [HX.out]; omega)⟩
        case measure => simp [RowKit.intOf]; omega
      · have n1 : (97 : Int) ≤ x.toNat := by omega
        have n2 : ¬ (x.toNat : Int) ≤ 122 := by omega
        go_wp2_with fail
        go_ret
        exact ⟨ret_bool (id_no hlt (by rw [HX.out]; omega) (by omega)).symm, rfl⟩
      · have n1 : (97 : Int) ≤ x.toNat := by omega
        have n2 : ¬ (x.toNat : Int) ≤ 122 := by omega
        have n3 : ¬ (x.toNat : Int) < 48 := by omega
        have n4 : (57 : Int) < x.toNat := by omega
        have k0 : ¬ (k : Int) = 0 := by omega
        go_wp2_with fail
        go_ret
        exact ⟨ret_bool (id_no hlt (by rw [HX.out]; omega) (by rw [HX.out]; omega)).symm, rfl⟩
    · obtain rfl : k = l.length := by omega
      have HE := Lib.hid (id_end HI.out)
      go_wp2_with (first | (go_at_call 98; refine (S_in _ _ _ _).mono ?_; rintro e w' ⟨rfl, rfl⟩) | fail)
      go_ret
      exact ⟨ret_bool (by rw [HE.out]; unfold inB; rw [Bool.eq_iff_iff]; simp; omega), rfl⟩
theorem below_iter (w : World) (s : ByteArray) (p : Nat) : Below w.heap.size w (w.iter s p) := (Below.refl _ _).alloc (Nat.le_refl _) _
set_option maxHeartbeats 4000000 in
theorem I_IsIdentifier {l : List UInt8} (w : World) (hl : l.length ≤ maxLen) :
    Calls Tryz.prog 36 #[str l] w fun e w' => e = .returned (.bool (isIdent l)) ∧ Below w.heap.size w w' := by
  unfold maxLen at hl
  go_enter Tryz.func36, Tryz.ntmps36
  go_wp2_with fail
  go_loopw [2] (fun r wr => ∃ k : Nat, k ≤ l.length ∧ wr = w.iter ⟨l.toArray⟩ k ∧ identTo l k = true) (fun _ wr => l.length - wr.iterPos w.heap.size)
  case atStart => exact ⟨0, Nat.zero_le _, rfl, rfl⟩
  case round =>
    obtain ⟨k, hk, rfl, hi⟩ := hrel
    have HI := Lib.hid hi
    clear hi
    by_cases hlt : k < l.length
    · obtain ⟨x, hx⟩ : ∃ x, l[k] = x := ⟨_, rfl⟩
      have hlt' : k < ByteArray.size ⟨l.toArray⟩ := hlt
      have hat : ({ data := l.toArray } : ByteArray)[k]'hlt' = x := hx
      have HX := Lib.hid hx
      have i2 : (k : Int) < l.length := by omega
      by_cases h128 : x.toNat < 128
      · have hnx : ∀ ty, (Instr.next (.pointer (some ⟨w.heap.size, 0, none⟩)) true ty).run Tryz.prog (w.iter ⟨l.toArray⟩ k) = .ok (.tuple #[.bool true, .int .i64 k, .int .i32 x.toNat]) (w.iter ⟨l.toArray⟩ (k + 1)) := fun ty => by
          rw [run_next_ascii w ⟨l.toArray⟩ k ty hlt' (by rw [hat]; exact h128), hat]
        clear hx hat hlt'
        rcases byte_cases x k with ⟨h1, h2⟩ | ⟨h1, rfl⟩ | ⟨h1, h2, h3⟩ | ⟨h1, h2, h3⟩ | ⟨h1, h2, h3, h4⟩ | ⟨h1, rfl⟩ | ⟨h1, h2⟩
        · go_wp2_with fail
          all_goals
            go_roundw
            case rel => exact ⟨k + 1, by omega, rfl, id_yes hlt HI.out (by rw [HX.out]; omega)⟩
            case measure => simp; omega
        · have n1 : ¬ (97 : Int) ≤ x.toNat := by omega
          go_wp2_with fail
          all_goals
            go_ret
            exact ⟨ret_bool (id_no hlt (by rw [HX.out]; omega) (by omega)).symm, below_iter _ _ _⟩
        · have n1 : ¬ (97 : Int) ≤ x.toNat := by omega
          have n2 : ¬ (48 : Int) ≤ x.toNat := by omega
          have k0 : ¬ (k : Int) = 0 := by omega
          go_wp2_with fail
          all_goals
            go_ret
            exact ⟨ret_bool (id_no hlt (by rw [HX.out]; omega) (by rw [HX.out]; omega)).symm, below_iter _ _ _⟩
        · have n1 : ¬ (97 : Int) ≤ x.toNat := by omega
          have n2 : (48 : Int) ≤ x.toNat := by omega
          have n3 : ¬ (x.toNat : Int) ≤ 57 := by omega
          have k0 : ¬ (k : Int) = 0 := by omega
          go_wp2_with fail
          all_goals
            go_ret
            exact ⟨ret_bool (id_no hlt (by rw [HX.out]; omega) (by rw [HX.out]; omega)).symm, below_iter _ _ _⟩
        · have n1 : ¬ (97 : Int) ≤ x.toNat := by omega
          have k0 : ¬ (k : Int) = 0 := by omega
          go_wp2_with fail
          all_goals
            go_roundw
            case rel => exact ⟨k + 1, by omega, rfl, id_yes hlt HI.out (by rw [HX.out]; omega)⟩
            case measure => simp; omega
        · have n1 : (97 : Int) ≤ x.toNat := by omega
          have n2 : ¬ (x.toNat : Int) ≤ 122 := by omega
          have n3 : (48 : Int) ≤ x.toNat := by omega
          have n4 : ¬ (x.toNat : Int) ≤ 57 := by omega
          go_wp2_with fail
          all_goals
            go_ret
            exact ⟨ret_bool (id_no hlt (by rw [HX.out]; omega) (by omega)).symm, below_iter _ _ _⟩
        · have n1 : (97 : Int) ≤ x.toNat := by omega
          have n2 : ¬ (x.toNat : Int) ≤ 122 := by omega
          have n3 : (48 : Int) ≤ x.toNat := by omega
          have n4 : ¬ (x.toNat : Int) ≤ 57 := by omega
          have k0 : ¬ (k : Int) = 0 := by omega
          go_wp2_with fail
          all_goals
            go_ret
            exact ⟨ret_bool (id_no hlt (by rw [HX.out]; omega) (by rw [HX.out]; omega)).symm, below_iter _ _ _⟩
      · obtain ⟨d1, d2⟩ := decode_high ⟨l.toArray⟩ k hlt' (by rw [hat]; omega)
        obtain ⟨r, hr⟩ : ∃ r, (Utf8.decode ⟨l.toArray⟩ k).1 = r := ⟨_, rfl⟩
        obtain ⟨q, hq⟩ : ∃ q, (Utf8.decode ⟨l.toArray⟩ k).2 = q := ⟨_, rfl⟩
        have hnx : ∀ ty, (Instr.next (.pointer (some ⟨w.heap.size, 0, none⟩)) true ty).run Tryz.prog (w.iter ⟨l.toArray⟩ k) = .ok (.tuple #[.bool true, .int .i64 k, .int .i32 r]) (w.iter ⟨l.toArray⟩ (k + q)) := fun ty => by
          rw [run_next_any w ⟨l.toArray⟩ k ty hlt', hr, hq]
        rw [hr] at d1
        clear hx hat hlt' hr hq d2
        have HN := Lib.hid (id_no hlt (by rw [HX.out]; omega) (by rw [HX.out]; omega))
        have n1 : (97 : Int) ≤ r := by omega
        have n2 : ¬ (r : Int) ≤ 122 := by omega
        have n3 : (48 : Int) ≤ r := by omega
        have n4 : ¬ (r : Int) ≤ 57 := by omega
        go_wp2_with fail
        all_goals
          go_ret
          exact ⟨ret_bool HN.out.symm, below_iter _ _ _⟩
    · have hnx : ∀ ty, (Instr.next (.pointer (some ⟨w.heap.size, 0, none⟩)) true ty).run Tryz.prog (w.iter ⟨l.toArray⟩ k) = .ok (.tuple #[.bool false]) (w.iter ⟨l.toArray⟩ k) := fun ty => run_next_end w ⟨l.toArray⟩ k ty hlt
      obtain rfl : k = l.length := by omega
      have HE := Lib.hid (id_end HI.out)
      go_wp2_with fail
      all_goals
        go_ret
        exact ⟨ret_bool (by rw [HE.out]; rw [Bool.eq_iff_iff]; simp; omega), below_iter _ _ _⟩
end Go.Proofs.YtnlbojckobgjpaaGreatDoor
