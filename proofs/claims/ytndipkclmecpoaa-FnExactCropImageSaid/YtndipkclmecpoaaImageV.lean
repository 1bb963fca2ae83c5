/- IsValidImage of the reference and of the program; the law FnExactIsValidImage. -/
import Derived.Test.YtndipkclmecpoaaRecs
import Derived.Test.YtndipkclmecpoaaWithin
import Derived.Deep.RegionHeld3
namespace Go.Proofs.Ytndipkclmecpoaa
open Go.ChangeShapes Go.WideShapes Go.ChangeAt Go.RowKit
set_option linter.unusedVariables false
def sizeB (W H : Int) : Bool := inB W 1 12 && inB H 1 12
theorem sizeB_true {W H : Int} (h : sizeB W H = true) : (1 ≤ W ∧ W ≤ 12) ∧ 1 ≤ H ∧ H ≤ 12 := by
  simp [sizeB] at h
  exact ⟨inB_true h.1, inB_true h.2⟩
/-- a product of two sides, bounded -/
theorem area_rng {W H : Int} (h : sizeB W H = true) : 1 ≤ W * H ∧ W * H ≤ 144 := by
  obtain ⟨⟨a, b⟩, c, d⟩ := sizeB_true h
  refine ⟨?_, ?_⟩
  · have : (1 : Int) * 1 ≤ W * H := Int.mul_le_mul a c (by omega) (by omega)
    omega
  · have : W * H ≤ 12 * 12 := Int.mul_le_mul b d (by omega) (by omega)
    omega
def validImg (W H : Int) (l : List Int) : Bool := sizeB W H && (decide ((l.length : Int) = W * H) && allIn l 0 256)
theorem sizeB_cases (W H : Int) : (sizeB W H = true ∧ inB W 1 12 = true ∧ inB H 1 12 = true) ∨ (sizeB W H = false ∧ inB W 1 12 = false) ∨ (sizeB W H = false ∧ inB W 1 12 = true ∧ inB H 1 12 = false) := by
  unfold sizeB
  cases inB W 1 12 <;> cases inB H 1 12 <;> simp
set_option maxHeartbeats 400000 in
theorem I_sizeOk (W H : Int) (w : World) :
    Calls Try.prog 88 #[.int .i64 W, .int .i64 H] w fun e w' => e = .returned (.bool (sizeB W H)) ∧ w = w' := by
  go_enter Try.func88, Try.ntmps88
  go_wp2_with (go_at_call 93; refine (I_within _ _ _ _).mono ?_; rintro e w' ⟨rfl, rfl⟩)
  all_goals
    go_ret
    exact ⟨ret_bool (by simp_all [sizeB]), rfl⟩
set_option maxHeartbeats 1000000 in
theorem I_IsValidImage {W H : Int} {A : Option Addr} {c : Nat} {l : List Int} (w : World) (h : RS w 1 A l.length c (ints l)) :
    Calls Try.prog 81 #[vImage W H (.slice A l.length c)] w fun e w' => e = .returned (.bool (validImg W H l)) ∧ Below w.heap.size w w' := by
  have HH := Lib.hid (h.alloc (.cells #[.int .i64 W, .int .i64 H, .slice A l.length c] 44))
  have hlen := h.len
  unfold maxLen at hlen
  clear h
  by_cases hv : sizeB W H = true
  · obtain ⟨a1, a2⟩ := area_rng hv
    have hp : IntKind.i64.wrap (W * H) = W * H := IntWalk.i64_in _ (by omega)
    by_cases hl : (l.length : Int) = W * H
    · have e1 : validImg W H l = allIn l 0 256 := by unfold validImg; rw [hv]; simp [hl]
      have e2 : ((l.length : Int) == W * H) = true := by simp [hl]
      have E1 := Lib.hid e1
      clear e1 hl
      go_enter Try.func81, Try.ntmps81
      go_wp2_with (first | (go_at_call 88; refine (I_sizeOk _ _ _).mono ?_; rintro e w' ⟨rfl, rfl⟩) | (go_at_call 89; refine (I_allWithin _ _ _ _ _ _ HH.out).mono ?_; rintro e w' ⟨rfl, rfl⟩))
      go_ret
      exact ⟨ret_bool E1.out.symm, (by repeat (first | (with_reducible exact Below.refl _ _) | (with_reducible assumption) | ((with_reducible refine Below.alloc ?_ ?_ _); rotate_left; (first | omega | (simp <;> omega))) | ((with_reducible refine Below.setCell ?_ ?_ _); rotate_left; (first | omega | (simp <;> omega))) | (with_reducible refine below_drewN ?_ _) | (with_reducible refine Below.drew ?_) | ((with_reducible refine Below.step (by assumption) ?_ ?_); rotate_left; (first | omega | (simp <;> omega)))))⟩
    · have e1 : validImg W H l = false := by unfold validImg; simp [hl]
      have e2 : ((l.length : Int) == W * H) = false := by simp [hl]
      have E1 := Lib.hid e1
      clear e1 hl
      go_enter Try.func81, Try.ntmps81
      go_wp2_with (first | (go_at_call 88; refine (I_sizeOk _ _ _).mono ?_; rintro e w' ⟨rfl, rfl⟩) | (go_at_call 89; refine (I_allWithin _ _ _ _ _ _ HH.out).mono ?_; rintro e w' ⟨rfl, rfl⟩))
      go_ret
      exact ⟨ret_bool E1.out.symm, (by repeat (first | (with_reducible exact Below.refl _ _) | (with_reducible assumption) | ((with_reducible refine Below.alloc ?_ ?_ _); rotate_left; (first | omega | (simp <;> omega))) | ((with_reducible refine Below.setCell ?_ ?_ _); rotate_left; (first | omega | (simp <;> omega))) | (with_reducible refine below_drewN ?_ _) | (with_reducible refine Below.drew ?_) | ((with_reducible refine Below.step (by assumption) ?_ ?_); rotate_left; (first | omega | (simp <;> omega)))))⟩
  · have hv' : sizeB W H = false := by simpa using hv
    have e1 : validImg W H l = false := by unfold validImg; rw [hv']; rfl
    have E1 := Lib.hid e1
    clear e1 hv
    go_enter Try.func81, Try.ntmps81
    go_wp2_with (first | (go_at_call 88; refine (I_sizeOk _ _ _).mono ?_; rintro e w' ⟨rfl, rfl⟩) | (go_at_call 89; refine (I_allWithin _ _ _ _ _ _ HH.out).mono ?_; rintro e w' ⟨rfl, rfl⟩))
    go_ret
    exact ⟨ret_bool E1.out.symm, (by repeat (first | (with_reducible exact Below.refl _ _) | (with_reducible assumption) | ((with_reducible refine Below.alloc ?_ ?_ _); rotate_left; (first | omega | (simp <;> omega))) | ((with_reducible refine Below.setCell ?_ ?_ _); rotate_left; (first | omega | (simp <;> omega))) | (with_reducible refine below_drewN ?_ _) | (with_reducible refine Below.drew ?_) | ((with_reducible refine Below.step (by assumption) ?_ ?_); rotate_left; (first | omega | (simp <;> omega)))))⟩
/-- The three outcomes of an image's check, as facts that a walk uses. -/
theorem validImg_cases (W H : Int) (n : Nat) (l : List Int) (hn : n = l.length) : (sizeB W H = true ∧ inB W 1 12 = true ∧ inB H 1 12 = true ∧ IntKind.i64.wrap (W * H) = W * H ∧ (1 ≤ W * H ∧ W * H ≤ 144) ∧ ((n : Int) == W * H) = true ∧ validImg W H l = allIn l 0 256) ∨
    (sizeB W H = true ∧ inB W 1 12 = true ∧ inB H 1 12 = true ∧ IntKind.i64.wrap (W * H) = W * H ∧ (1 ≤ W * H ∧ W * H ≤ 144) ∧ ((n : Int) == W * H) = false ∧ validImg W H l = false) ∨
    (sizeB W H = false ∧ inB W 1 12 = true ∧ inB H 1 12 = false ∧ validImg W H l = false) ∨ (sizeB W H = false ∧ inB W 1 12 = false ∧ validImg W H l = false) := by
  subst hn
  rcases sizeB_cases W H with ⟨h1, h2, h3⟩ | ⟨h1, h2⟩ | ⟨h1, h2, h3⟩
  · have ha := area_rng h1
    have hp : IntKind.i64.wrap (W * H) = W * H := IntWalk.i64_in _ (by omega)
    by_cases hl : (l.length : Int) = W * H
    · exact .inl ⟨h1, h2, h3, hp, ha, by simp [hl], by unfold validImg; rw [h1]; simp [hl]⟩
    · exact .inr (.inl ⟨h1, h2, h3, hp, ha, by simp [hl], by unfold validImg; simp [hl]⟩)
  · exact .inr (.inr (.inr ⟨h1, h2, by unfold validImg; simp [h1]⟩))
  · exact .inr (.inr (.inl ⟨h1, h2, h3, by unfold validImg; simp [h1]⟩))
set_option maxHeartbeats 1000000 in
theorem S_IsValidImage {W H : Int} {A : Option Addr} {c : Nat} {l : List Int} (w : World) (h : RS w 1 A l.length c (ints l)) :
    Calls Try.prog 78 #[vImage W H (.slice A l.length c)] w fun e w' => e = .returned (.bool (validImg W H l)) ∧ Below w.heap.size w w' := by
  have hlen := h.len
  unfold maxLen at hlen
  obtain ⟨_, _, hr⟩ := (h.alloc (.cells #[.int .i64 W, .int .i64 H, .slice A l.length c] 44)).open_
  have HR := Lib.hid hr
  have HC := Lib.hid (validImg_cases W H l.length l rfl)
  clear h hr
  go_enter Try.func78, Try.ntmps78
  go_wp2
  go_loop [4, 8] (fun _ i => ∃ k : Nat, k ≤ l.length ∧ i = .int .i64 k ∧ allIn (l.take k) 0 256 = true) (fun _ i => l.length - (intOf i).toNat)
  case atStart => exact ⟨0, Nat.zero_le _, rfl, rfl⟩
  case round =>
    obtain ⟨k, hk, rfl, ht⟩ := hrel
    have HT := Lib.hid ht
    clear ht
    by_cases hlt : k < l.length
    · obtain ⟨b, o, rfl, hbh, hcell⟩ := HR.out (by omega)
      have c1 : (w.alloc (.cells #[.int .i64 W, .int .i64 H, .slice (some ⟨b, o, none⟩) l.length c] 44)).cell? ⟨b, o + k, none⟩ = some (.int .i64 l[k]) := by rw [hcell k (by omega), ints_at hlt]
      clear hcell
      by_cases hin : inB l[k] 0 256 = true
      · go_wp2_with (go_at_call 87; refine (S_in _ _ _ _).mono ?_; rintro e w' ⟨rfl, rfl⟩)
        go_round
        case rel => exact ⟨k + 1, by omega, by go_num, allIn_take HT.out hlt hin⟩
        case measure => simp [intOf]; omega
      · have hin' : inB l[k] 0 256 = false := by simpa using hin
        have e1 : validImg W H l = false := by unfold validImg; rw [allIn_false hlt hin']; simp
        have E1 := Lib.hid e1
        clear e1 hin
        go_wp2_with (go_at_call 87; refine (S_in _ _ _ _).mono ?_; rintro e w' ⟨rfl, rfl⟩)
        go_ret
        exact ⟨ret_bool E1.out.symm, (by repeat (first | (with_reducible exact Below.refl _ _) | (with_reducible assumption) | ((with_reducible refine Below.alloc ?_ ?_ _); rotate_left; (first | omega | (simp <;> omega))) | ((with_reducible refine Below.setCell ?_ ?_ _); rotate_left; (first | omega | (simp <;> omega))) | (with_reducible refine below_drewN ?_ _) | (with_reducible refine Below.drew ?_) | ((with_reducible refine Below.step (by assumption) ?_ ?_); rotate_left; (first | omega | (simp <;> omega)))))⟩
    · have hall : allIn l 0 256 = true := by
        obtain rfl : k = l.length := by omega
        have := HT.out
        rwa [List.take_of_length_le (Nat.le_refl _)] at this
      rcases HC.out with ⟨q1, q2, q3, q4, ⟨q5, q6⟩, q7, q8⟩ | ⟨q1, q2, q3, q4, ⟨q5, q6⟩, q7, q8⟩ | ⟨q1, q2, q3, q8⟩ | ⟨q1, q2, q8⟩
      · rw [hall] at q8
        have Q8 := Lib.hid q8
        clear q8 hall
        go_wp2_with (go_at_call 87; refine (S_in _ _ _ _).mono ?_; rintro e w' ⟨rfl, rfl⟩)
        go_ret
        exact ⟨ret_bool Q8.out.symm, (by repeat (first | (with_reducible exact Below.refl _ _) | (with_reducible assumption) | ((with_reducible refine Below.alloc ?_ ?_ _); rotate_left; (first | omega | (simp <;> omega))) | ((with_reducible refine Below.setCell ?_ ?_ _); rotate_left; (first | omega | (simp <;> omega))) | (with_reducible refine below_drewN ?_ _) | (with_reducible refine Below.drew ?_) | ((with_reducible refine Below.step (by assumption) ?_ ?_); rotate_left; (first | omega | (simp <;> omega)))))⟩
      all_goals
        have Q8 := Lib.hid q8
        clear q8 hall
        go_wp2_with (go_at_call 87; refine (S_in _ _ _ _).mono ?_; rintro e w' ⟨rfl, rfl⟩)
        go_ret
        exact ⟨ret_bool Q8.out.symm, (by repeat (first | (with_reducible exact Below.refl _ _) | (with_reducible assumption) | ((with_reducible refine Below.alloc ?_ ?_ _); rotate_left; (first | omega | (simp <;> omega))) | ((with_reducible refine Below.setCell ?_ ?_ _); rotate_left; (first | omega | (simp <;> omega))) | (with_reducible refine below_drewN ?_ _) | (with_reducible refine Below.drew ?_) | ((with_reducible refine Below.step (by assumption) ?_ ?_); rotate_left; (first | omega | (simp <;> omega)))))⟩
end Go.Proofs.Ytndipkclmecpoaa
