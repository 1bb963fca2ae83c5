/- Texel of the reference and of the program. -/
import Derived.Test.YtjipfgadamokaaaGreatDoorMgD
import Derived.Test.YtjipfgadamokaaaGreatDoorMgC
import Derived.BigQuiet
import Derived.Deep.QuietTactic
import Derived.Deep.RegionHeld3
import Derived.WalkSpells
set_option linter.unusedVariables false
set_option linter.unusedSimpArgs false
namespace Go.Proofs.YtjipfgadamokaaaGreatDoor
open Go.RowKit
theorem quiet_same {P : Program} {f : FuncId} {args : Array Value} {w : World} {n : Nat} {v : Value}
    (h : Calls P f args (w.drewN n) fun e w' => e = .returned v ∧ w.drewN n = w') : Calls P f args (w.drewN n) fun e w'' => e = .returned v ∧ ∃ m, w'' = w.drewN m :=
  h.mono fun _ _ ⟨he, hm⟩ => ⟨he, n, hm.symm⟩
theorem quiet_same0 {P : Program} {f : FuncId} {args : Array Value} {w : World} {v : Value}
    (h : Calls P f args w fun e w' => e = .returned v ∧ w = w') : Calls P f args w fun e w'' => e = .returned v ∧ ∃ m, w'' = w.drewN m :=
  h.mono fun _ _ ⟨he, hm⟩ => ⟨he, 0, hm.symm⟩
/-- The side of a texture. -/
def sideF (log : Int) : Int := if log = 0 then 1 else if log = 1 then 2 else if log = 2 then 4 else if log = 3 then 8 else 16
theorem log_cases {log : Int} (h : inB log 0 4 = true) : log = 0 ∨ log = 1 ∨ log = 2 ∨ log = 3 ∨ log = 4 := by have := inB_true h; omega
def validTex (log : Int) (l : List Int) : Bool := inB log 0 4 && (decide ((l.length : Int) = sideF log * sideF log) && allIn l 0 256)
set_option maxHeartbeats 400000 in
theorem S_l15Size {log : Int} (h : inB log 0 4 = true) (w : World) : Calls Tryz.prog 76 #[.int .i64 log] w fun e w' => e = .returned (.int .i64 (sideF log)) ∧ w = w' := by
  have key : ∀ m : Nat, m ≤ 4 → log = m → Calls Tryz.prog 76 #[.int .i64 log] w fun e w' => e = .returned (.int .i64 ((2 ^ m : Nat) : Int)) ∧ w = w' := by
    intro m hm hl
    subst hl
    go_enter Tryz.func76, Tryz.ntmps76
    go_wp2
    go_loop [0, 3] (fun t n => ∃ j : Nat, j ≤ m ∧ t = .int .i64 j ∧ n = .int .i64 ((2 ^ (m - j) : Nat) : Int)) (fun t _ => (intOf t).toNat)
    case atStart => exact ⟨m, Nat.le_refl _, rfl, by simp⟩
    case round =>
      obtain ⟨j, hj, rfl, rfl⟩ := hrel
      have hp : 2 ^ (m - j) ≤ 2 ^ 4 := Nat.pow_le_pow_right (by omega) (by omega)
      have hs : j ≠ 0 → 2 ^ (m - (j - 1)) = 2 * 2 ^ (m - j) := fun h => by rw [show m - (j - 1) = (m - j) + 1 by omega, Nat.pow_succ]; omega
      have HS := Lib.hid hs
      clear hs
      by_cases hlt : 0 < j
      · generalize 2 ^ (m - j) = q at *
        have h0 : (0 : Int) < j := by omega
        go_wp2
        go_round
        case rel => exact ⟨j - 1, by omega, by congr 1; omega, by rw [HS.out (by omega)]; congr 1⟩
        case measure => simp [intOf]; omega
      · obtain rfl : j = 0 := by omega
        go_wp2
        go_ret
        exact ⟨ret_int (by simp), rfl⟩
  rcases log_cases h with rfl | rfl | rfl | rfl | rfl
  · exact key 0 (by omega) rfl
  · exact key 1 (by omega) rfl
  · exact key 2 (by omega) rfl
  · exact key 3 (by omega) rfl
  · exact key 4 (by omega) rfl
theorem shl_lit (k : Nat) (hk : k ≤ 8) : Op.shift .shl .i64 1 .i64 (k : Int) = pure (.int .i64 (2 ^ k)) := by
  rcases (by omega : k = 0 ∨ k = 1 ∨ k = 2 ∨ k = 3 ∨ k = 4 ∨ k = 5 ∨ k = 6 ∨ k = 7 ∨ k = 8) with rfl | rfl | rfl | rfl | rfl | rfl | rfl | rfl | rfl <;> rfl
theorem side_rng (log : Int) : 1 ≤ sideF log ∧ sideF log ≤ 16 ∧ 1 ≤ sideF log * sideF log ∧ sideF log * sideF log ≤ 256 := by
  unfold sideF; repeat' split
  all_goals omega
theorem validTex_cases (log : Int) (n : Nat) : (inB log 0 4 = true ∧ (((n : Int) != sideF log * sideF log) = false ∧ ((n : Int) == sideF log * sideF log) = true) ∧ Hid ((n : Int) = sideF log * sideF log)) ∨ (inB log 0 4 = true ∧ (((n : Int) != sideF log * sideF log) = true ∧ ((n : Int) == sideF log * sideF log) = false) ∧ Hid (¬ (n : Int) = sideF log * sideF log)) ∨ inB log 0 4 = false := by
  cases h : inB log 0 4
  · exact .inr (.inr rfl)
  · by_cases hn : (n : Int) = sideF log * sideF log
    · exact .inl ⟨rfl, ⟨by simp [hn], by simp [hn]⟩, hn⟩
    · exact .inr (.inl ⟨rfl, ⟨by simp [hn], by simp [hn]⟩, hn⟩)
set_option maxHeartbeats 1000000 in
theorem S_IsValidTexture {log : Int} {A : Option Addr} {c : Nat} {l : List Int} (w : World) (h : RS w 1 A l.length c (ints l)) :
    Calls Tryz.prog 38 #[vTexture log (.slice A l.length c)] w fun e w' => e = .returned (.bool (validTex log l)) ∧ Below w.heap.size w w' := by
  have hlen := h.len
  unfold maxLen at hlen
  have H0 := Lib.hid h
  clear h
  obtain ⟨s1, s2, s3, s4⟩ := side_rng log
  have hp : IntKind.i64.wrap (sideF log * sideF log) = sideF log * sideF log := IntWalk.i64_in _ (by omega)
  rcases validTex_cases log l.length with ⟨q1, ⟨q2, q2'⟩, q3⟩ | ⟨q1, ⟨q2, q2'⟩, q3⟩ | q1
  case inr.inr =>
    have HE : Hid (validTex log l = false) := by show _ = _; unfold validTex; rw [q1]; rfl
    clear hp
    go_enter Tryz.func38, Tryz.ntmps38
    go_wp2_with fail
    go_quiet ((go_at_call 29; exact quiet_same (S_in _ _ _ _)))
    go_wp2
    go_ret
    exact ⟨ret_bool HE.out.symm, (by repeat (first | (with_reducible exact Below.refl _ _) | (with_reducible assumption) | ((with_reducible refine Below.alloc ?_ ?_ _); rotate_left; (first | omega | (simp <;> omega))) | ((with_reducible refine Below.setCell ?_ ?_ _); rotate_left; (first | omega | (simp <;> omega))) | (with_reducible refine below_drewN ?_ _) | (with_reducible refine Below.drew ?_) | ((with_reducible refine Below.step (by assumption) ?_ ?_); rotate_left; (first | omega | (simp <;> omega)))))⟩
  case inr.inl =>
    have HE : Hid (validTex log l = false) := by show _ = _; unfold validTex; rw [q1]; simp [q3.out]
    go_enter Tryz.func38, Tryz.ntmps38
    go_wp2_with fail
    go_quiet ((first | (go_at_call 29; exact quiet_same (S_in_is q1 _)) | (go_at_call 76; exact quiet_same (S_l15Size q1 _))))
    go_wp2
    go_ret
    exact ⟨ret_bool HE.out.symm, (by repeat (first | (with_reducible exact Below.refl _ _) | (with_reducible assumption) | ((with_reducible refine Below.alloc ?_ ?_ _); rotate_left; (first | omega | (simp <;> omega))) | ((with_reducible refine Below.setCell ?_ ?_ _); rotate_left; (first | omega | (simp <;> omega))) | (with_reducible refine below_drewN ?_ _) | (with_reducible refine Below.drew ?_) | ((with_reducible refine Below.step (by assumption) ?_ ?_); rotate_left; (first | omega | (simp <;> omega)))))⟩
  case inl =>
    have HE : Hid (validTex log l = allIn l 0 256) := by show _ = _; unfold validTex; rw [q1]; simp [q3.out]
    go_enter Tryz.func38, Tryz.ntmps38
    go_wp2_with fail
    go_quiet ((first | (go_at_call 29; exact quiet_same (S_in_is q1 _)) | (go_at_call 76; exact quiet_same (S_l15Size q1 _))))
    clear hp
    go_wp2_with fail
    go_loop [4, 25] (fun _ i => ∃ k : Nat, k ≤ l.length ∧ i = .int .i64 k ∧ allIn (l.take k) 0 256 = true) (fun _ i => l.length - (intOf i).toNat)
    case atStart => exact ⟨0, Nat.zero_le _, rfl, rfl⟩
    case round =>
      obtain ⟨k, hk, rfl, ht⟩ := hrel
      have HT := Lib.hid ht
      clear ht
      by_cases hlt : k < l.length
      · obtain ⟨b, o, rfl, hbh, hcell⟩ := H0.out.open_.2.2 (by omega)
        have c1 : w.cell? ⟨b, o + k, none⟩ = some (.int .i64 l[k]) := by rw [hcell k (by omega), ints_at hlt]
        have hne : ¬ b = w.heap.size := by omega
        clear hcell
        by_cases hin : inB l[k] 0 256 = true
        · go_wp2_with (go_at_call 29; refine (S_in _ _ _ _).mono ?_; rintro e w' ⟨rfl, rfl⟩)
          go_round
          case rel => exact ⟨k + 1, by omega, by go_num, allIn_take HT.out hlt hin⟩
          case measure => simp [intOf]; omega
        · have hin' : inB l[k] 0 256 = false := by simpa using hin
          have E1 : Hid (validTex log l = false) := HE.out.trans (allIn_false hlt hin')
          clear hin
          go_wp2_with (go_at_call 29; refine (S_in _ _ _ _).mono ?_; rintro e w' ⟨rfl, rfl⟩)
          go_ret
          exact ⟨ret_bool E1.out.symm, (by repeat (first | (with_reducible exact Below.refl _ _) | (with_reducible assumption) | ((with_reducible refine Below.alloc ?_ ?_ _); rotate_left; (first | omega | (simp <;> omega))) | ((with_reducible refine Below.setCell ?_ ?_ _); rotate_left; (first | omega | (simp <;> omega))) | (with_reducible refine below_drewN ?_ _) | (with_reducible refine Below.drew ?_) | ((with_reducible refine Below.step (by assumption) ?_ ?_); rotate_left; (first | omega | (simp <;> omega)))))⟩
      · have E1 : Hid (validTex log l = true) := by
          obtain rfl : k = l.length := by omega
          have := HT.out
          rw [List.take_of_length_le (Nat.le_refl _)] at this
          exact HE.out.trans this
        go_wp2
        go_ret
        exact ⟨ret_bool E1.out.symm, (by repeat (first | (with_reducible exact Below.refl _ _) | (with_reducible assumption) | ((with_reducible refine Below.alloc ?_ ?_ _); rotate_left; (first | omega | (simp <;> omega))) | ((with_reducible refine Below.setCell ?_ ?_ _); rotate_left; (first | omega | (simp <;> omega))) | (with_reducible refine below_drewN ?_ _) | (with_reducible refine Below.drew ?_) | ((with_reducible refine Below.step (by assumption) ?_ ?_); rotate_left; (first | omega | (simp <;> omega)))))⟩
set_option maxHeartbeats 1000000 in
theorem I_IsValidTexture {log : Int} {A : Option Addr} {c : Nat} {l : List Int} (w : World) (h : RS w 1 A l.length c (ints l)) :
    Calls Tryz.prog 51 #[vTexture log (.slice A l.length c)] w fun e w' => e = .returned (.bool (validTex log l)) ∧ Below w.heap.size w w' := by
  have hlen := h.len
  unfold maxLen at hlen
  have HA := Lib.hid (RS.alloc h (.cells #[.int .i64 log, .slice A l.length c] 34))
  clear h
  rcases validTex_cases log l.length with ⟨q1, ⟨q2, q2'⟩, q3⟩ | ⟨q1, ⟨q2, q2'⟩, q3⟩ | q1
  case inr.inr =>
    have HE : Hid (validTex log l = false) := by show _ = _; unfold validTex; rw [q1]; rfl
    go_enter Tryz.func51, Tryz.ntmps51
    go_wp2_with fail
    go_quiet ((go_at_call 31; exact quiet_same (I_within_is q1 _)))
    go_wp2
    go_ret
    exact ⟨ret_bool HE.out.symm, (by repeat (first | (with_reducible exact Below.refl _ _) | (with_reducible assumption) | ((with_reducible refine Below.alloc ?_ ?_ _); rotate_left; (first | omega | (simp <;> omega))) | ((with_reducible refine Below.setCell ?_ ?_ _); rotate_left; (first | omega | (simp <;> omega))) | (with_reducible refine below_drewN ?_ _) | (with_reducible refine Below.drew ?_) | ((with_reducible refine Below.step (by assumption) ?_ ?_); rotate_left; (first | omega | (simp <;> omega)))))⟩
  case inr.inl =>
    have HE : Hid (validTex log l = false) := by show _ = _; unfold validTex; rw [q1]; simp [q3.out]
    have HQ := Lib.hid q2'
    clear q2 q2'
    rcases log_cases q1 with rfl | rfl | rfl | rfl | rfl
    all_goals
      have hq := HQ.out
      simp only [show sideF 0 * sideF 0 = (1 : Int) from rfl, show sideF 1 * sideF 1 = (4 : Int) from rfl, show sideF 2 * sideF 2 = (16 : Int) from rfl, show sideF 3 * sideF 3 = (64 : Int) from rfl, show sideF 4 * sideF 4 = (256 : Int) from rfl] at hq
      have hw0 : IntKind.i64.wrap 0 = 0 := rfl
      have g0 := shl_lit 0 (by omega); have g1 := shl_lit 1 (by omega); have g2 := shl_lit 2 (by omega); have g3 := shl_lit 3 (by omega); have g4 := shl_lit 4 (by omega); have g6 := shl_lit 6 (by omega); have g8 := shl_lit 8 (by omega)
      simp at g0 g1 g2 g3 g4 g6 g8
      go_enter Tryz.func51, Tryz.ntmps51
      go_wp2_with fail
      go_quiet ((first | (go_at_call 31; exact quiet_same (I_within_is q1 _)) | (go_at_call 83; exact quiet_same (I_allWithin _ _ _ _ _ _ HA.out))))
      go_wp2
      go_ret
      exact ⟨ret_bool HE.out.symm, (by repeat (first | (with_reducible exact Below.refl _ _) | (with_reducible assumption) | ((with_reducible refine Below.alloc ?_ ?_ _); rotate_left; (first | omega | (simp <;> omega))) | ((with_reducible refine Below.setCell ?_ ?_ _); rotate_left; (first | omega | (simp <;> omega))) | (with_reducible refine below_drewN ?_ _) | (with_reducible refine Below.drew ?_) | ((with_reducible refine Below.step (by assumption) ?_ ?_); rotate_left; (first | omega | (simp <;> omega)))))⟩
  case inl =>
    have HE : Hid (validTex log l = allIn l 0 256) := by show _ = _; unfold validTex; rw [q1]; simp [q3.out]
    have HQ := Lib.hid q2'
    clear q2 q2'
    rcases log_cases q1 with rfl | rfl | rfl | rfl | rfl
    all_goals
      have hq := HQ.out
      simp only [show sideF 0 * sideF 0 = (1 : Int) from rfl, show sideF 1 * sideF 1 = (4 : Int) from rfl, show sideF 2 * sideF 2 = (16 : Int) from rfl, show sideF 3 * sideF 3 = (64 : Int) from rfl, show sideF 4 * sideF 4 = (256 : Int) from rfl] at hq
      have hw0 : IntKind.i64.wrap 0 = 0 := rfl
      have g0 := shl_lit 0 (by omega); have g1 := shl_lit 1 (by omega); have g2 := shl_lit 2 (by omega); have g3 := shl_lit 3 (by omega); have g4 := shl_lit 4 (by omega); have g6 := shl_lit 6 (by omega); have g8 := shl_lit 8 (by omega)
      simp at g0 g1 g2 g3 g4 g6 g8
      go_enter Tryz.func51, Tryz.ntmps51
      go_wp2_with fail
      go_quiet ((first | (go_at_call 31; exact quiet_same (I_within_is q1 _)) | (go_at_call 83; exact quiet_same (I_allWithin _ _ _ _ _ _ HA.out))))
      go_wp2
      go_ret
      exact ⟨ret_bool HE.out.symm, (by repeat (first | (with_reducible exact Below.refl _ _) | (with_reducible assumption) | ((with_reducible refine Below.alloc ?_ ?_ _); rotate_left; (first | omega | (simp <;> omega))) | ((with_reducible refine Below.setCell ?_ ?_ _); rotate_left; (first | omega | (simp <;> omega))) | (with_reducible refine below_drewN ?_ _) | (with_reducible refine Below.drew ?_) | ((with_reducible refine Below.step (by assumption) ?_ ?_); rotate_left; (first | omega | (simp <;> omega)))))⟩
def texAt (N : Int) (l : List Int) (x y : Int) : Int := l.getD (y % N * N + x % N).toNat 0
def texF (log : Int) (l : List Int) (x y : Int) : Int := if validTex log l then texAt (sideF log) l x y else 0
theorem tmod_add_emod (x N : Int) (hN : 0 < N) : (x.tmod N + N).tmod N = x % N ∧ -N < x.tmod N ∧ x.tmod N < N := by
  have h1 := Int.mul_tdiv_add_tmod x N
  have h2 := Int.tmod_lt_of_pos x hN
  have h3 := Int.lt_tmod_of_pos x hN
  refine ⟨?_, h3, h2⟩
  rw [Int.tmod_eq_emod_of_nonneg (by omega), Int.add_emod_right]
  have : x % N = (x.tmod N + N * x.tdiv N) % N := by congr 1; omega
  rw [this, Int.add_mul_emod_self_left]
theorem tex_idx (l : List Int) (N x y : Int) (hN : 1 ≤ N) (hN2 : N ≤ 16) (hl : (l.length : Int) = N * N) : (0 ≤ y % N * N ∧ y % N * N ≤ 256) ∧ (0 ≤ x % N ∧ x % N ≤ 16) ∧ (0 ≤ y % N ∧ y % N ≤ 16) ∧ ∃ j : Nat, y % N * N + x % N = j ∧ ∃ hj : j < l.length, texAt N l x y = l[j] := by
  have a1 := Int.emod_nonneg y (show N ≠ 0 by omega)
  have a2 := Int.emod_lt_of_pos y (show 0 < N by omega)
  have a3 := Int.emod_nonneg x (show N ≠ 0 by omega)
  have a4 := Int.emod_lt_of_pos x (show 0 < N by omega)
  have a5 : y % N * N ≤ (N - 1) * N := Int.mul_le_mul_of_nonneg_right (by omega) (by omega)
  have a6 : 0 ≤ y % N * N := Int.mul_nonneg a1 (by omega)
  rw [Int.sub_mul, Int.one_mul] at a5
  have a7 : N * N ≤ 16 * 16 := Int.mul_le_mul hN2 hN2 (by omega) (by omega)
  refine ⟨⟨a6, by omega⟩, ⟨a3, by omega⟩, ⟨a1, by omega⟩, (y % N * N + x % N).toNat, by omega, by omega, ?_⟩
  unfold texAt
  rw [List.getD_eq_getElem?_getD, List.getElem?_eq_getElem (by omega), Option.getD_some]
theorem I_floorMod_is {a b r : Int} (w : World) (h1 : -9223372036854775808 ≤ a) (h2 : a ≤ 9223372036854775807) (hb : 1 ≤ b) (hb2 : b ≤ 16) (hr : a % b = r) :
    Calls Tryz.prog 61 #[.int .i64 a, .int .i64 b] w fun e w' => e = .returned (.int .i64 r) ∧ w = w' := by
  subst hr; exact I_floorMod w h1 h2 hb (by omega)
theorem tex_nat (l : List Int) (N : Nat) (x y : Int) (hN : 1 ≤ N) (hl : l.length = N * N) : ∃ i m : Nat, x % N = i ∧ y % N = m ∧ i < N ∧ m < N ∧ m * N + i < l.length ∧ ∃ h : m * N + i < l.length, texAt N l x y = l[m * N + i] := by
  have a1 := Int.emod_nonneg y (show (N : Int) ≠ 0 by omega)
  have a2 := Int.emod_lt_of_pos y (show 0 < (N : Int) by omega)
  have a3 := Int.emod_nonneg x (show (N : Int) ≠ 0 by omega)
  have a4 := Int.emod_lt_of_pos x (show 0 < (N : Int) by omega)
  obtain ⟨i, hi⟩ := Int.eq_ofNat_of_zero_le a3
  obtain ⟨m, hm⟩ := Int.eq_ofNat_of_zero_le a1
  have hmN : (m + 1) * N ≤ N * N := Nat.mul_le_mul_right _ (by omega)
  rw [Nat.succ_mul] at hmN
  have hlt : m * N + i < l.length := by omega
  refine ⟨i, m, hi, hm, by omega, by omega, hlt, hlt, ?_⟩
  unfold texAt
  rw [hi, hm, show ((m : Int) * (N : Int) + (i : Int)).toNat = m * N + i by rw [← Int.natCast_mul]; omega, List.getD_eq_getElem?_getD, List.getElem?_eq_getElem hlt, Option.getD_some]
theorem texF_no {log : Int} {l : List Int} {x y : Int} (h : validTex log l = false) : texF log l x y = 0 := by unfold texF; rw [h]; rfl
theorem texF_yes {log : Int} {l : List Int} {x y : Int} (h : validTex log l = true) : texF log l x y = texAt (sideF log) l x y := by unfold texF; rw [h]; rfl
theorem validTex_true {log : Int} {l : List Int} (h : validTex log l = true) : inB log 0 4 = true ∧ (l.length : Int) = sideF log * sideF log ∧ ∃ N : Nat, sideF log = N ∧ l.length = N * N := by
  unfold validTex at h
  simp only [Bool.and_eq_true, decide_eq_true_eq] at h
  have hs := side_rng log
  obtain ⟨N, hN⟩ := Int.eq_ofNat_of_zero_le (show 0 ≤ sideF log by omega)
  refine ⟨h.1, h.2.1, N, hN, ?_⟩
  have := h.2.1
  rw [hN, ← Int.natCast_mul] at this
  omega
end Go.Proofs.YtjipfgadamokaaaGreatDoor
