/- IsValidDeep of the reference and of the program. -/
import Derived.Test.YtaeajeclbcodeaaPairs
import Derived.Test.YtaeajeclbcodeaaPure
import Derived.BigQuiet
import Derived.Deep.QuietTactic
namespace Go.Proofs.Ytaeajeclbcodeaa
open Go.RowKit
set_option linter.unusedVariables false
def inD (x : EDeepStep) : Bool := inB x.1 (-1000000) 1000000 && inB x.2 0 65535
def lessD (y x : EDeepStep) : Bool := decide (y.1 < x.1) && decide (x.2 < y.2)
/-- Step k of a deep list is in order. -/
def stepB (l : List EDeepStep) : Nat → Bool
  | 0 => match l[0]? with | none => true | some x => inD x
  | j + 1 => match l[j]?, l[j + 1]? with | some y, some x => inD x && lessD y x | _, _ => true
def stepsTo (l : List EDeepStep) (k : Nat) : Bool := (List.range k).all (stepB l)
def validDeep (l : List EDeepStep) : Bool := decide (l.length ≤ 64) && stepsTo l l.length
theorem stepsTo_succ {l : List EDeepStep} {k : Nat} (h : stepsTo l k = true) (e : stepB l k = true) : stepsTo l (k + 1) = true := by
  unfold stepsTo at *
  rw [List.range_succ, List.all_append, h]
  simp [e]
theorem validDeep_false {l : List EDeepStep} {k : Nat} (hk : k < l.length) (e : stepB l k = false) : validDeep l = false := by
  unfold validDeep stepsTo
  have : (List.range l.length).all (stepB l) = false := by
    rw [List.all_eq_false]
    exact ⟨k, by simpa using hk, by simp [e]⟩
  rw [this]; simp
theorem stepB_zero {l : List EDeepStep} (h : 0 < l.length) : stepB l 0 = inD l[0] := by simp [stepB, h]
theorem stepB_pos {l : List EDeepStep} {k j : Nat} (h : k < l.length) (e : k = j + 1) (h' : j < l.length) : stepB l k = (inD l[k] && lessD l[j] l[k]) := by
  subst e; simp [stepB, h, h']
theorem stepB_nul {l : List EDeepStep} {k : Nat} (h : k < l.length) (e : k = 0) : stepB l k = inD l[k] := by
  subst e; simp [stepB, h]
theorem stepB_in {l : List EDeepStep} {k : Nat} (h : k < l.length) (e : inD l[k] = false) : stepB l k = false := by
  cases k with
  | zero => rw [stepB_nul h rfl]; exact e
  | succ j => rw [stepB_pos h rfl (by omega)]; simp [e]
theorem stepB_succ {l : List EDeepStep} {j : Nat} (h : j + 1 < l.length) : stepB l (j + 1) = (inD l[j + 1] && lessD l[j] l[j + 1]) := by
  have h' : j < l.length := by omega
  simp [stepB, h, h']
set_option maxHeartbeats 2000000 in
theorem S_IsValidDeep {A : Option Addr} {c : Nat} {l : List EDeepStep} (w : World) (h : RS w 2 A l.length c (rDeepStep l)) :
    Calls Try.prog 33 #[.slice A l.length c] w fun e w' => e = .returned (.bool (validDeep l)) ∧ Below w.heap.size w w' := by
  obtain ⟨hn, hc, hr⟩ := h.open_
  unfold maxLen at hc
  have HR := Lib.hid hr
  have hB0 := Below.refl w.heap.size w
  clear hr h
  go_enter Try.func33, Try.ntmps33
  go_wp2
  go_loopw [3, 4, 7] (fun _ _ i wr => ∃ k : Nat, k ≤ l.length ∧ i = .int .i64 k ∧ stepsTo l k = true ∧ Below w.heap.size w wr) (fun _ _ i _ => l.length - (intOf i).toNat)
  case atStart => exact ⟨0, Nat.zero_le _, rfl, rfl, hB0⟩
  case round =>
    obtain ⟨k, hk, rfl, hst, hb⟩ := hrel
    have HB := Lib.hid hb
    have HS := Lib.hid hst
    clear hb hB0 hst
    by_cases hlt : k < l.length
    · obtain ⟨b, o, rfl, hbh, hcell⟩ := HR.out (by omega)
      obtain ⟨q0, q1⟩ := rDeepStep_at (l := l) hlt
      have hg : b < wr.heap.size := Nat.lt_of_lt_of_le hbh HB.out.size
      have d0 : wr.cell? ⟨b, o + k * 2, none⟩ = some (.int .i64 l[k].1) := by rw [(bcell HB.out).1 _ _ (by omega), hcell _ (by omega), q0]
      have d1 : wr.cell? ⟨b, o + k * 2 + 1, none⟩ = some (.int .i64 l[k].2) := by rw [(bcell HB.out).1 _ _ (by omega), show o + k * 2 + 1 = o + (k * 2 + 1) by omega, hcell _ (by omega), q1]
      have b0 : (0 : Int) ≤ k := by omega
      have b1 : (k : Int) < l.length := by omega
      clear q0 q1
      by_cases hin : inD l[k] = true
      case neg =>
        have HF := Lib.hid (validDeep_false hlt (stepB_in hlt (by simpa using hin)))
        have hd : inB l[k].1 (-1000000) 1000000 = false ∨ (inB l[k].1 (-1000000) 1000000 = true ∧ inB l[k].2 0 65535 = false) := by
          unfold inD at hin
          cases h1 : inB l[k].1 (-1000000) 1000000 <;> simp_all
        clear hin hcell
        rcases hd with h1 | ⟨h1, h2⟩
        all_goals
          go_wp2_with (go_at_call 53; refine (S_in _ _ _ _).mono ?_; rintro e w' ⟨rfl, rfl⟩)
          go_ret
          exact ⟨ret_bool HF.out.symm, HB.out.alloc HB.out.size _⟩
      case pos =>
        have hin' := hin
        unfold inD at hin'
        simp only [Bool.and_eq_true] at hin'
        obtain ⟨h1, h2⟩ := hin'
        by_cases hk0 : k = 0
        · have hs : stepB l k = true := by rw [stepB_nul hlt hk0]; exact hin
          have HN := Lib.hid (stepsTo_succ HS.out hs)
          have g1 : decide (0 < k) = false := by simp; omega
          clear hs hin hcell hk0
          go_wp2_with (go_at_call 53; refine (S_in _ _ _ _).mono ?_; rintro e w' ⟨rfl, rfl⟩)
          go_quiet (fail)
          go_wp2
          go_roundw
          case rel => exact ⟨k + 1, by omega, by go_num, HN.out, below_drewN (HB.out.alloc HB.out.size _) _⟩
          case measure => simp [intOf]; omega
        · obtain ⟨j, hj⟩ : ∃ j, k = j + 1 := ⟨k - 1, by omega⟩
          have hjl : j < l.length := by omega
          obtain ⟨q0, q1⟩ := rDeepStep_at (l := l) hjl
          have hs := stepB_pos hlt hj hjl
          rw [hin, Bool.true_and] at hs
          have d2 : wr.cell? ⟨b, o + j * 2, none⟩ = some (.int .i64 l[j].1) := by rw [(bcell HB.out).1 _ _ (by omega), hcell _ (by omega), q0]
          have d3 : wr.cell? ⟨b, o + j * 2 + 1, none⟩ = some (.int .i64 l[j].2) := by rw [(bcell HB.out).1 _ _ (by omega), show o + j * 2 + 1 = o + (j * 2 + 1) by omega, hcell _ (by omega), q1]
          have g1 : decide (0 < k) = true := by simp; omega
          have g2 : IntKind.i64.wrap ((k : Int) - 1) = (k : Int) - 1 := IntWalk.i64_in _ (by omega)
          have g3 : (0 : Int) ≤ (k : Int) - 1 := by omega
          have g4 : (k : Int) - 1 < l.length := by omega
          have g5 : ((k : Int) - 1).toNat = j := by omega
          have g6 : (1 : Int) ≤ k := by omega
          clear q0 q1 hcell hk0 hj
          by_cases hl1 : l[j].1 < l[k].1
          · have t1 : decide (l[k].1 ≤ l[j].1) = false := by simp; omega
            by_cases hl2 : l[k].2 < l[j].2
            · have t2 : decide (l[j].2 ≤ l[k].2) = false := by simp; omega
              have hs' : stepB l k = true := by rw [hs]; simp [lessD, hl1, hl2]
              have HN := Lib.hid (stepsTo_succ HS.out hs')
              clear hs hs' hin
              go_wp2_with (go_at_call 53; refine (S_in _ _ _ _).mono ?_; rintro e w' ⟨rfl, rfl⟩)
              go_quiet (fail)
              go_wp2
              go_roundw
              case rel => exact ⟨k + 1, by omega, by go_num, HN.out, below_drewN (HB.out.alloc HB.out.size _) _⟩
              case measure => simp [intOf]; omega
            · have t2 : decide (l[j].2 ≤ l[k].2) = true := by simp; omega
              have hs' : stepB l k = false := by rw [hs]; simp [lessD, hl2]
              have HF := Lib.hid (validDeep_false hlt hs')
              clear hs hs' hin
              go_wp2_with (go_at_call 53; refine (S_in _ _ _ _).mono ?_; rintro e w' ⟨rfl, rfl⟩)
              go_quiet (fail)
              go_wp2
              go_ret
              exact ⟨ret_bool HF.out.symm, below_drewN (HB.out.alloc HB.out.size _) _⟩
          · have t1 : decide (l[k].1 ≤ l[j].1) = true := by simp; omega
            have hs' : stepB l k = false := by rw [hs]; simp [lessD, hl1]
            have HF := Lib.hid (validDeep_false hlt hs')
            clear hs hs' hin
            go_wp2_with (go_at_call 53; refine (S_in _ _ _ _).mono ?_; rintro e w' ⟨rfl, rfl⟩)
            go_quiet (fail)
            go_wp2
            go_ret
            exact ⟨ret_bool HF.out.symm, below_drewN (HB.out.alloc HB.out.size _) _⟩
    · have hall : stepsTo l l.length = true := by
        obtain rfl : k = l.length := by omega
        exact HS.out
      have hv : validDeep l = decide ((l.length : Int) ≤ 64) := by unfold validDeep; rw [hall, Bool.and_true]; congr 1; simp only [eq_iff_iff]; omega
      have HV := Lib.hid hv
      clear hall hv
      go_wp2
      go_ret
      exact ⟨ret_bool HV.out.symm, HB.out⟩
set_option maxHeartbeats 2000000 in
theorem I_IsValidDeep {A : Option Addr} {c : Nat} {l : List EDeepStep} (w : World) (h : RS w 2 A l.length c (rDeepStep l)) :
    Calls Try.prog 22 #[.slice A l.length c] w fun e w' => e = .returned (.bool (validDeep l)) ∧ Below w.heap.size w w' := by
  obtain ⟨hn, hc, hr⟩ := h.open_
  unfold maxLen at hc
  have HR := Lib.hid hr
  have hB0 := Below.refl w.heap.size w
  clear hr h
  by_cases h64 : l.length ≤ 64
  case neg =>
    have hf : validDeep l = false := by unfold validDeep; simp [h64]
    have HF := Lib.hid hf
    have hb64 : (64 : Int) < l.length := by omega
    clear hf h64
    go_enter Try.func22, Try.ntmps22
    go_wp2
    go_ret
    exact ⟨ret_bool HF.out.symm, Below.refl _ _⟩
  go_enter Try.func22, Try.ntmps22
  go_wp2
  go_loopw [3, 4, 10] (fun _ _ i wr => ∃ k : Nat, k ≤ l.length ∧ i = .int .i64 k ∧ stepsTo l k = true ∧ Below w.heap.size w wr) (fun _ _ i _ => l.length - (intOf i).toNat)
  case atStart => exact ⟨0, Nat.zero_le _, rfl, rfl, hB0⟩
  case round =>
    obtain ⟨k, hk, rfl, hst, hb⟩ := hrel
    have HB := Lib.hid hb
    have HS := Lib.hid hst
    clear hb hB0 hst
    by_cases hlt : k < l.length
    · obtain ⟨b, o, rfl, hbh, hcell⟩ := HR.out (by omega)
      obtain ⟨q0, q1⟩ := rDeepStep_at (l := l) hlt
      have hg : b < wr.heap.size := Nat.lt_of_lt_of_le hbh HB.out.size
      have d0 : wr.cell? ⟨b, o + k * 2, none⟩ = some (.int .i64 l[k].1) := by rw [(bcell HB.out).1 _ _ (by omega), hcell _ (by omega), q0]
      have d1 : wr.cell? ⟨b, o + k * 2 + 1, none⟩ = some (.int .i64 l[k].2) := by rw [(bcell HB.out).1 _ _ (by omega), show o + k * 2 + 1 = o + (k * 2 + 1) by omega, hcell _ (by omega), q1]
      have b0 : (0 : Int) ≤ k := by omega
      have b1 : (k : Int) < l.length := by omega
      clear q0 q1
      by_cases hin : inD l[k] = true
      case neg =>
        have HF := Lib.hid (validDeep_false hlt (stepB_in hlt (by simpa using hin)))
        have hd : inB l[k].1 (-1000000) 1000000 = false ∨ (inB l[k].1 (-1000000) 1000000 = true ∧ inB l[k].2 0 65535 = false) := by
          unfold inD at hin
          cases h1 : inB l[k].1 (-1000000) 1000000 <;> simp_all
        clear hin hcell
        rcases hd with h1 | ⟨h1, h2⟩
        all_goals
          go_wp2_with (go_at_call 46; refine (I_within _ _ _ _).mono ?_; rintro e w' ⟨rfl, rfl⟩)
          go_ret
          exact ⟨ret_bool HF.out.symm, HB.out.alloc HB.out.size _⟩
      case pos =>
        have hin' := hin
        unfold inD at hin'
        simp only [Bool.and_eq_true] at hin'
        obtain ⟨h1, h2⟩ := hin'
        by_cases hk0 : k = 0
        · have hs : stepB l k = true := by rw [stepB_nul hlt hk0]; exact hin
          have HN := Lib.hid (stepsTo_succ HS.out hs)
          have g1 : decide (0 < k) = false := by simp; omega
          clear hs hin hcell hk0
          go_wp2_with (go_at_call 46; refine (I_within _ _ _ _).mono ?_; rintro e w' ⟨rfl, rfl⟩)
          go_quiet (fail)
          go_wp2
          go_roundw
          case rel => exact ⟨k + 1, by omega, by go_num, HN.out, below_drewN (HB.out.alloc HB.out.size _) _⟩
          case measure => simp [intOf]; omega
        · obtain ⟨j, hj⟩ : ∃ j, k = j + 1 := ⟨k - 1, by omega⟩
          have hjl : j < l.length := by omega
          obtain ⟨q0, q1⟩ := rDeepStep_at (l := l) hjl
          have hs := stepB_pos hlt hj hjl
          rw [hin, Bool.true_and] at hs
          have d2 : wr.cell? ⟨b, o + j * 2, none⟩ = some (.int .i64 l[j].1) := by rw [(bcell HB.out).1 _ _ (by omega), hcell _ (by omega), q0]
          have d3 : wr.cell? ⟨b, o + j * 2 + 1, none⟩ = some (.int .i64 l[j].2) := by rw [(bcell HB.out).1 _ _ (by omega), show o + j * 2 + 1 = o + (j * 2 + 1) by omega, hcell _ (by omega), q1]
          have g1 : decide (0 < k) = true := by simp; omega
          have g2 : IntKind.i64.wrap ((k : Int) - 1) = (k : Int) - 1 := IntWalk.i64_in _ (by omega)
          have g3 : (0 : Int) ≤ (k : Int) - 1 := by omega
          have g4 : (k : Int) - 1 < l.length := by omega
          have g5 : ((k : Int) - 1).toNat = j := by omega
          have g6 : (1 : Int) ≤ k := by omega
          clear q0 q1 hcell hk0 hj
          by_cases hl1 : l[j].1 < l[k].1
          · have t1 : decide (l[k].1 ≤ l[j].1) = false := by simp; omega
            by_cases hl2 : l[k].2 < l[j].2
            · have t2 : decide (l[j].2 ≤ l[k].2) = false := by simp; omega
              have hs' : stepB l k = true := by rw [hs]; simp [lessD, hl1, hl2]
              have HN := Lib.hid (stepsTo_succ HS.out hs')
              clear hs hs' hin
              go_wp2_with (go_at_call 46; refine (I_within _ _ _ _).mono ?_; rintro e w' ⟨rfl, rfl⟩)
              go_quiet (fail)
              go_wp2
              go_roundw
              case rel => exact ⟨k + 1, by omega, by go_num, HN.out, below_drewN (HB.out.alloc HB.out.size _) _⟩
              case measure => simp [intOf]; omega
            · have t2 : decide (l[j].2 ≤ l[k].2) = true := by simp; omega
              have hs' : stepB l k = false := by rw [hs]; simp [lessD, hl2]
              have HF := Lib.hid (validDeep_false hlt hs')
              clear hs hs' hin
              go_wp2_with (go_at_call 46; refine (I_within _ _ _ _).mono ?_; rintro e w' ⟨rfl, rfl⟩)
              go_quiet (fail)
              go_wp2
              go_ret
              exact ⟨ret_bool HF.out.symm, below_drewN (HB.out.alloc HB.out.size _) _⟩
          · have t1 : decide (l[k].1 ≤ l[j].1) = true := by simp; omega
            have hs' : stepB l k = false := by rw [hs]; simp [lessD, hl1]
            have HF := Lib.hid (validDeep_false hlt hs')
            clear hs hs' hin
            go_wp2_with (go_at_call 46; refine (I_within _ _ _ _).mono ?_; rintro e w' ⟨rfl, rfl⟩)
            go_quiet (fail)
            go_wp2
            go_ret
            exact ⟨ret_bool HF.out.symm, below_drewN (HB.out.alloc HB.out.size _) _⟩
    · have hall : stepsTo l l.length = true := by
        obtain rfl : k = l.length := by omega
        exact HS.out
      have hv : validDeep l = true := by unfold validDeep; rw [hall, Bool.and_true]; simpa using h64
      have HV := Lib.hid hv
      clear hall hv
      go_wp2
      go_ret
      exact ⟨ret_bool HV.out.symm, HB.out⟩
end Go.Proofs.Ytaeajeclbcodeaa
