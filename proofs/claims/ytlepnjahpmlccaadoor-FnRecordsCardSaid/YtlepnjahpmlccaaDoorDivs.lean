/- FloorDiv, floorMod; a hash of ints. -/
import Derived.Test.YtlepnjahpmlccaaDoorPure
import Derived.Test.YtlepnjahpmlccaaDoorInts
import Derived.StillTailTactics
namespace Go.Proofs.YtlepnjahpmlccaaDoor
open Go.RowKit
set_option linter.unusedVariables false
def fdivF (a b : Int) : Int := if b < 1 then 0 else a / b
theorem tdiv_neg {a b : Int} (ha : a < 0) (hb : 1 ≤ b) : a ≤ a.tdiv b ∧ a.tdiv b ≤ 0 ∧ -b < a.tmod b ∧ a.tmod b ≤ 0 ∧ (a.tmod b < 0 → a ≤ a.tdiv b - 1 ∧ a / b = a.tdiv b - 1) ∧ (¬ a.tmod b < 0 → a / b = a.tdiv b) := by
  have h1 := Int.mul_tdiv_add_tmod a b
  have h4 : a.tmod b ≤ 0 := by
    have := Int.tmod_nonneg (a := -a) b (by omega)
    rw [Int.neg_tmod] at this; omega
  have h5 : -b < a.tmod b := by
    have := Int.tmod_lt_of_pos (-a) (b := b) (by omega)
    rw [Int.neg_tmod] at this; omega
  have h3 : a.tdiv b ≤ 0 := by
    have := Int.tdiv_nonneg (a := -a) (b := b) (by omega) (by omega)
    rw [Int.neg_tdiv] at this; omega
  have h6 : b * a.tdiv b ≤ a.tdiv b := by
    have := Int.mul_le_mul_of_nonpos_right (a := b) (b := 1) (c := a.tdiv b) (by omega) h3
    omega
  have h7 : a ≤ a.tdiv b := by
    rcases Int.lt_or_le (a.tmod b) 0 with h | h
    · have hb2 : 2 ≤ b := by omega
      rcases Int.lt_or_le (a.tdiv b) 0 with hq | hq
      · have : b * a.tdiv b ≤ 2 * a.tdiv b := Int.mul_le_mul_of_nonpos_right hb2 h3
        omega
      · omega
    · omega
  refine ⟨h7, h3, h5, h4, fun h => ?_, fun h => ?_⟩
  · have hb2 : 2 ≤ b := by omega
    refine ⟨?_, ?_⟩
    · rcases Int.lt_or_le (a.tdiv b) 0 with hq | hq
      · have : b * a.tdiv b ≤ 2 * a.tdiv b := Int.mul_le_mul_of_nonpos_right hb2 h3
        omega
      · omega
    · have e : a = (a.tmod b + b) + b * (a.tdiv b - 1) := by rw [Int.mul_sub, Int.mul_one]; omega
      rw [e, Int.add_mul_ediv_left _ _ (by omega), Int.ediv_eq_zero_of_lt (by omega) (by omega)]
      rw [← e]; omega
  · have e : a = b * a.tdiv b := by omega
    have hd : b ∣ a := ⟨_, e⟩
    exact (Int.tdiv_eq_ediv_of_dvd hd).symm
theorem fdivF_neg {a b : Int} (ha : a < 0) (hb : 1 ≤ b) : (a.tmod b < 0 ∧ a ≤ a.tdiv b - 1 ∧ a.tdiv b ≤ 0 ∧ fdivF a b = a.tdiv b - 1) ∨ (¬ a.tmod b < 0 ∧ a ≤ a.tdiv b ∧ a.tdiv b ≤ 0 ∧ fdivF a b = a.tdiv b) := by
  obtain ⟨h1, h2, h3, h4, h5, h6⟩ := tdiv_neg ha hb
  have e : fdivF a b = a / b := by unfold fdivF; rw [if_neg (by omega)]
  by_cases h : a.tmod b < 0
  · exact .inl ⟨h, (h5 h).1, h2, e.trans (h5 h).2⟩
  · exact .inr ⟨h, h1, h2, e.trans (h6 h)⟩
theorem fdivF_rng {a b : Int} (hb : 1 ≤ b) : fdivF a b = a / b ∧ a - fdivF a b * b = a % b := by
  have e : fdivF a b = a / b := by unfold fdivF; rw [if_neg (by omega)]
  refine ⟨e, ?_⟩
  rw [e, Int.emod_def, Int.mul_comm]
theorem wrap_sub {a r : Int} (h1 : 0 ≤ r) (h2 : r ≤ 9223372036854775807) : wrap64 (a - wrap64 (a - r)) = r := by
  have hb : (2 : Int) ^ IntKind.i64.bits = 18446744073709551616 := rfl
  have hc : (2 : Int) ^ (IntKind.i64.bits - 1) = 9223372036854775808 := rfl
  have hs : IntKind.i64.signed = true := rfl
  simp only [wrap64]
  omega
set_option maxHeartbeats 400000 in
theorem S_FloorDiv {a b : Int} (w : World) (h1 : -9223372036854775808 ≤ a) (h2 : a ≤ 9223372036854775807) :
    Calls Tryd.prog 60 #[.int .i64 a, .int .i64 b] w fun e w' => e = .returned (.int .i64 (fdivF a b)) ∧ w = w' := by
  by_cases hb : b < 1
  · have HE := Lib.hid (show fdivF a b = 0 by unfold fdivF; rw [if_pos hb])
    go_enter Tryd.func60, Tryd.ntmps60
    go_wp2
    go_ret
    exact ⟨ret_int HE.out.symm, rfl⟩
  · have hb0 : (b == 0) = false := by simp; omega
    rcases Int.lt_or_le a 0 with ha | ha
    · rcases fdivF_neg ha (by omega : 1 ≤ b) with ⟨q1, q2, q3, q4⟩ | ⟨q1, q2, q3, q4⟩
      all_goals
        have HE := Lib.hid q4
        clear q4
        have hp : IntKind.i64.wrap (a.tdiv b) = a.tdiv b := IntWalk.i64_in _ (by omega)
        go_enter Tryd.func60, Tryd.ntmps60
        go_wp2
        go_ret
        exact ⟨ret_int HE.out.symm, rfl⟩
    · have HE := Lib.hid (show fdivF a b = a / b by unfold fdivF; rw [if_neg hb])
      have k1 : 0 ≤ a % b := Int.emod_nonneg _ (by omega)
      have k2 : 0 ≤ a / b := Int.ediv_nonneg ha (by omega)
      have k3 : a / b ≤ a := Int.ediv_le_self _ ha
      go_enter Tryd.func60, Tryd.ntmps60
      go_wp2
      go_ret
      exact ⟨ret_int HE.out.symm, rfl⟩
set_option maxHeartbeats 400000 in
theorem I_FloorDiv {a b : Int} (w : World) (h1 : -9223372036854775808 ≤ a) (h2 : a ≤ 9223372036854775807) :
    Calls Tryd.prog 89 #[.int .i64 a, .int .i64 b] w fun e w' => e = .returned (.int .i64 (fdivF a b)) ∧ w = w' := by
  by_cases hb : b < 1
  · have HE := Lib.hid (show fdivF a b = 0 by unfold fdivF; rw [if_pos hb])
    go_enter Tryd.func89, Tryd.ntmps89
    go_wp2
    go_ret
    exact ⟨ret_int HE.out.symm, rfl⟩
  · have hb0 : (b == 0) = false := by simp; omega
    rcases Int.lt_or_le a 0 with ha | ha
    · rcases fdivF_neg ha (by omega : 1 ≤ b) with ⟨q1, q2, q3, q4⟩ | ⟨q1, q2, q3, q4⟩
      all_goals
        have HE := Lib.hid q4
        clear q4
        have hp : IntKind.i64.wrap (a.tdiv b) = a.tdiv b := IntWalk.i64_in _ (by omega)
        go_enter Tryd.func89, Tryd.ntmps89
        go_wp2
        go_ret
        exact ⟨ret_int HE.out.symm, rfl⟩
    · have HE := Lib.hid (show fdivF a b = a / b by unfold fdivF; rw [if_neg hb])
      have k1 : 0 ≤ a % b := Int.emod_nonneg _ (by omega)
      have k2 : 0 ≤ a / b := Int.ediv_nonneg ha (by omega)
      have k3 : a / b ≤ a := Int.ediv_le_self _ ha
      go_enter Tryd.func89, Tryd.ntmps89
      go_wp2
      go_ret
      exact ⟨ret_int HE.out.symm, rfl⟩
set_option maxHeartbeats 400000 in
theorem I_floorMod {a b : Int} (w : World) (h1 : -9223372036854775808 ≤ a) (h2 : a ≤ 9223372036854775807) (hb : 1 ≤ b) (hb2 : b ≤ 4611686018427387904) :
    Calls Tryd.prog 73 #[.int .i64 a, .int .i64 b] w fun e w' => e = .returned (.int .i64 (a % b)) ∧ w = w' := by
  obtain ⟨e1, e2⟩ := fdivF_rng (a := a) hb
  have HE := Lib.hid e2
  have k1 : 0 ≤ a % b := Int.emod_nonneg _ (by omega)
  have k2 : a % b < b := Int.emod_lt_of_pos _ (by omega)
  have hw : wrap64 (a - wrap64 (fdivF a b * b)) = a % b := by
    rw [show fdivF a b * b = a - a % b by omega]
    exact wrap_sub k1 (by omega)
  have HW := Lib.hid hw
  clear e1 e2 hw
  go_enter Tryd.func73, Tryd.ntmps73
  go_wp2_with (go_at_call 89; refine (I_FloorDiv _ h1 h2).mono ?_; rintro e w' ⟨rfl, rfl⟩)
  go_ret
  exact ⟨ret_int HW.out, rfl⟩
/-- One step of the hash. -/
def hashStep (h x : Int) : Int := (31 * h + clampF x (-1000000000) 1000000000) % 1000003
def hashF (l : List Int) : Int := l.foldl hashStep 17
theorem clampF_rng (x : Int) : -1000000000 ≤ clampF x (-1000000000) 1000000000 ∧ clampF x (-1000000000) 1000000000 ≤ 1000000000 := by unfold clampF; (repeat' split) <;> omega
theorem hashStep_rng (h x : Int) : 0 ≤ hashStep h x ∧ hashStep h x < 1000003 := by unfold hashStep; omega
theorem hashF_rng (l : List Int) : 0 ≤ hashF l ∧ hashF l < 1000003 := by
  have key : ∀ (l : List Int) (h : Int), (0 ≤ h ∧ h < 1000003) → 0 ≤ l.foldl hashStep h ∧ l.foldl hashStep h < 1000003 := by
    intro l
    induction l with
    | nil => exact fun h hh => hh
    | cons x l ih => exact fun h _ => ih _ (hashStep_rng h x)
  exact key l 17 ⟨by decide, by decide⟩
theorem hashF_succ {l : List Int} {k : Nat} (h : k < l.length) : hashF (l.take (k + 1)) = hashStep (hashF (l.take k)) l[k] := by
  unfold hashF
  rw [List.take_succ_eq_append_getElem h, List.foldl_append]; rfl
set_option maxHeartbeats 400000 in
theorem S_HashInts {A : Option Addr} {n c : Nat} {l : List Int} (w : World) (hl : l.length = n) (h : RS w 1 A n c (ints l)) :
    Calls Tryd.prog 35 #[.slice A n c] w fun e w' => e = .returned (.int .i64 (hashF l)) ∧ w = w' := by
  subst hl
  obtain ⟨hn, hc, hr⟩ := h.open_
  unfold maxLen at hc
  clear h
  have HR := Lib.hid hr
  clear hr
  go_enter Tryd.func35, Tryd.ntmps35
  go_wp2
  go_loop [3, 5, 8] (fun v _ i => ∃ k : Nat, k ≤ l.length ∧ i = .int .i64 k ∧ v = .int .i64 (hashF (l.take k))) (fun _ _ i => l.length - (intOf i).toNat)
  case atStart => exact ⟨0, Nat.zero_le _, rfl, rfl⟩
  case round =>
    obtain ⟨k, hk, rfl, rfl⟩ := hrel
    obtain ⟨q1, q2⟩ := hashF_rng (l.take k)
    by_cases hlt : k < l.length
    · obtain ⟨b, o, rfl, hbh, hcell⟩ := HR.out (by omega)
      have c1 : w.cell? ⟨b, o + k, none⟩ = some (.int .i64 l[k]) := by rw [hcell k (by omega), ints_at hlt]
      have HS := Lib.hid (hashF_succ hlt)
      clear hcell
      generalize hashF (l.take k) = hv at *
      generalize l[k] = x at *
      obtain ⟨q3, q4⟩ := clampF_rng x
      have e0 : hashStep hv x = 31 * hv + clampF x (-1000000000) 1000000000 - fdivF (31 * hv + clampF x (-1000000000) 1000000000) 1000003 * 1000003 := by
        rw [(fdivF_rng (a := 31 * hv + clampF x (-1000000000) 1000000000) (b := 1000003) (by omega)).2]; rfl
      have e1 := (fdivF_rng (a := 31 * hv + clampF x (-1000000000) 1000000000) (b := 1000003) (by omega)).1
      have HS2 := Lib.hid (HS.out.trans e0)
      have e2 : -1100 ≤ fdivF (31 * hv + clampF x (-1000000000) 1000000000) 1000003 ∧ fdivF (31 * hv + clampF x (-1000000000) 1000000000) 1000003 ≤ 1100 := by rw [e1]; omega
      obtain ⟨e3, e4⟩ := e2
      clear e0 e1
      go_wp2_with (first | (go_at_call 59; refine (S_Clamp _ _ _ _).mono ?_; rintro e w' ⟨rfl, rfl⟩) | (go_at_call 60; refine (S_FloorDiv _ (by omega) (by omega)).mono ?_; rintro e w' ⟨rfl, rfl⟩))
      go_round
      case rel => exact ⟨k + 1, by omega, by go_num, by rw [HS2.out]⟩
      case measure => simp [intOf]; omega
    · obtain rfl : k = l.length := by omega
      go_wp2
      go_ret
      exact ⟨ret_int (by first | rfl | rw [List.take_of_length_le (Nat.le_refl _)]), rfl⟩
set_option maxHeartbeats 400000 in
theorem I_HashInts {A : Option Addr} {n c : Nat} {l : List Int} (w : World) (hl : l.length = n) (h : RS w 1 A n c (ints l)) :
    Calls Tryd.prog 63 #[.slice A n c] w fun e w' => e = .returned (.int .i64 (hashF l)) ∧ w = w' := by
  subst hl
  obtain ⟨hn, hc, hr⟩ := h.open_
  unfold maxLen at hc
  clear h
  have HR := Lib.hid hr
  clear hr
  go_enter Tryd.func63, Tryd.ntmps63
  go_wp2
  go_loop [3, 5, 8] (fun v _ i => ∃ k : Nat, k ≤ l.length ∧ i = .int .i64 k ∧ v = .int .i64 (hashF (l.take k))) (fun _ _ i => l.length - (intOf i).toNat)
  case atStart => exact ⟨0, Nat.zero_le _, rfl, rfl⟩
  case round =>
    obtain ⟨k, hk, rfl, rfl⟩ := hrel
    obtain ⟨q1, q2⟩ := hashF_rng (l.take k)
    by_cases hlt : k < l.length
    · obtain ⟨b, o, rfl, hbh, hcell⟩ := HR.out (by omega)
      have c1 : w.cell? ⟨b, o + k, none⟩ = some (.int .i64 l[k]) := by rw [hcell k (by omega), ints_at hlt]
      have HS := Lib.hid (hashF_succ hlt)
      clear hcell
      generalize hashF (l.take k) = hv at *
      generalize l[k] = x at *
      obtain ⟨q3, q4⟩ := clampF_rng x
      go_wp2_with (first | (go_at_call 53; refine (I_Clamp _ _ _ _).mono ?_; rintro e w' ⟨rfl, rfl⟩) | (go_at_call 73; refine (I_floorMod _ (by omega) (by omega) (by omega) (by omega)).mono ?_; rintro e w' ⟨rfl, rfl⟩))
      go_round
      case rel => exact ⟨k + 1, by omega, by go_num, by rw [HS.out]; rfl⟩
      case measure => simp [intOf]; omega
    · obtain rfl : k = l.length := by omega
      go_wp2
      go_ret
      exact ⟨ret_int (by first | rfl | rw [List.take_of_length_le (Nat.le_refl _)]), rfl⟩
end Go.Proofs.YtlepnjahpmlccaaDoor
