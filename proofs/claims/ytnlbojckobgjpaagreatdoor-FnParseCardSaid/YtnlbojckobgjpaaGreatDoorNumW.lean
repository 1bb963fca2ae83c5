/- MADE BY PROGRAM (gennum.py). FormatNumber of the reference and of the program. -/
import Derived.Test.YtnlbojckobgjpaaGreatDoorMgB
import Derived.Test.YtnlbojckobgjpaaGreatDoorMgC
set_option linter.unusedVariables false
set_option linter.unusedSimpArgs false
namespace Go.Proofs.YtnlbojckobgjpaaGreatDoor
open Go.RowKit Go.Lib
set_option maxRecDepth 100000
theorem numF_nat (m : Nat) (h : m ≤ 2559999) : numF (m : Int) = if m % 256 = 0 then decDigits (m / 256) else decDigits (m / 256) ++ 46 :: fracT (m % 256) := by
  unfold numF
  rw [if_pos (by omega)]
  have e1 : ((m : Int) / 256).toNat = m / 256 := by omega
  have e2 : ((m : Int) % 256).toNat = m % 256 := by omega
  rw [e1, e2]
  by_cases h0 : m % 256 = 0
  · rw [if_pos h0, if_pos (by omega)]
  · rw [if_neg h0, if_neg (by omega)]
theorem repeatL_one (b : UInt8) (c : Nat) : Lib.repeatL [b] c = List.replicate c b := by
  induction c with
  | zero => rfl
  | succ c ih => first | (rw [Lib.repeatL, ih, List.replicate_succ]; rfl) | (simp [Lib.repeatL, List.replicate_succ])
def p10 (k : Nat) : Nat := 10 ^ k
theorem frac_at {r d : Nat} (h : fracOk r d = true) : (r * 10 ^ d + 255) / 256 < 10 ^ d ∧ (r * 10 ^ d + 255) / 256 * 256 / 10 ^ d = r := by
  unfold fracOk at h
  simpa [Bool.and_eq_true] using h
set_option maxHeartbeats 4000000 in
theorem I_powerN {k : Nat} (w : World) (hk : k ≤ 4) :
    Calls Tryz.prog 66 #[.int .i64 k] w fun e w' => e = .returned (.int .i64 (p10 k : Int)) ∧ w = w' := by
  go_enter Tryz.func66, Tryz.ntmps66
  go_wp2_with fail
  go_loop [3, 5] (fun n i => ∃ j : Nat, j ≤ k ∧ i = .int .i64 j ∧ n = .int .i64 (p10 j : Int)) (fun _ i => k - (RowKit.intOf i).toNat)
  case atStart => exact ⟨0, Nat.zero_le _, rfl, rfl⟩
  case round =>
    obtain ⟨j, hj, rfl, rfl⟩ := hrel
    have hp : p10 j ≤ 10 ^ 4 := Nat.pow_le_pow_right (by omega) (by omega)
    have HS : Hid (p10 (j + 1) = p10 j * 10) := Lib.hid (Nat.pow_succ 10 j)
    generalize hq : p10 j = q at *
    have HQ := Lib.hid hq
    clear hq
    by_cases hlt : j < k
    · have i1 : (j : Int) < k := by omega
      have hw : IntKind.i64.wrap ((q : Int) * 10) = (q : Int) * 10 := IntWalk.i64_in _ (by omega)
      go_wp2_with fail
      go_round
      case rel => exact ⟨j + 1, by omega, by go_num, by rw [HS.out]; first | rfl | exact congrArg (Value.int .i64) (by push_cast; rfl) | exact congrArg (Value.int .i64) (by omega)⟩
      case measure => simp [RowKit.intOf]; omega
    · obtain rfl : j = k := by omega
      go_wp2_with fail
      go_ret
      exact ⟨ret_int (by rw [HQ.out]), rfl⟩
theorem I_power_is {k : Nat} {u : Nat} (h : p10 k = u) (hk : k ≤ 4) (w : World) : Calls Tryz.prog 66 #[.int .i64 k] w fun e w' => e = .returned (.int .i64 u) ∧ w = w' := by subst h; exact I_powerN w hk
theorem I_FormatInt_nat (n : Nat) (hn : n ≤ 1000000000) (w : World) (ht : Tab w) : Calls Tryz.prog 65 #[.int .i64 n] w fun e w' => e = .returned (str (decDigits n)) ∧ Below w.heap.size w w' := by
  have h := I_FormatInt (n : Int) w ht
  have e : fmtI (n : Int) = decDigits n := by
    rw [fmtI_in (by unfold inNum; omega)]; unfold itoa; rw [if_neg (by omega)]; rfl
  rw [e] at h
  exact h
set_option maxHeartbeats 16000000 in
theorem I_FormatNumber {m : Nat} (w : World) (hm : m ≤ 2559999) (ht : Tab w) :
    Calls Tryz.prog 41 #[.int .i64 m] w fun e w' => e = .returned (str (numF (m : Int))) ∧ Below w.heap.size w w' := by
  have HN := Lib.hid (numF_nat m hm)
  have hin : inB (m : Int) 0 2559999 = true := inB_mk (by omega) (by omega)
  have t1 : (m : Int).tdiv 256 = ((m / 256 : Nat) : Int) := by rw [Int.tdiv_eq_ediv_of_nonneg (by omega)]; omega
  have t2 : (m : Int).tmod 256 = ((m % 256 : Nat) : Int) := by rw [Int.tmod_eq_emod_of_nonneg (by omega)]; omega
  have hr : m % 256 < 256 := Nat.mod_lt _ (by omega)
  have hq : m / 256 ≤ 9999 := by omega
  obtain ⟨q, eq⟩ : ∃ q, m / 256 = q := ⟨_, rfl⟩
  obtain ⟨r, er⟩ : ∃ r, m % 256 = r := ⟨_, rfl⟩
  rw [eq, er] at HN
  rw [eq] at t1 hq
  rw [er] at t2 hr
  have HW : Hid (∀ wx, Below w.heap.size w wx → Calls Tryz.prog 65 #[.int .i64 q] wx fun e w' => e = .returned (str (decDigits q)) ∧ Below wx.heap.size wx w') := Lib.hid (fun wx hb => I_FormatInt_nat q (by omega) wx (ht.step hb))
  have hwl : (decDigits q).length ≤ 4 := decDigits_len_le 4 q (by omega) (by omega)
  have HT := Lib.hid ht
  generalize decDigits q = W at *
  have IN : Hid (∀ wx, Calls Tryz.prog 37 #[.int .i64 m, .int .i64 0, .int .i64 2559999] wx fun e w' => e = .returned (.bool true) ∧ wx = w') := Lib.hid (fun wx => I_within_is hin wx)
  clear ht eq er
  by_cases h0 : r = 0
  · have HE : Hid (numF (m : Int) = W) := Lib.hid (by rw [HN.out, if_pos h0])
    subst h0
    go_enter Tryz.func41, Tryz.ntmps41
    go_wp2_with (first | (go_at_call 37; refine (IN.out _).mono ?_; rintro e w' ⟨rfl, rfl⟩) | (go_at_call 65; refine (HW.out _ (by repeat (first | (with_reducible exact Below.refl _ _) | (with_reducible assumption) | ((with_reducible refine Below.alloc ?_ ?_ _); rotate_left; (first | omega | (simp <;> omega))) | ((with_reducible refine Below.setCell ?_ ?_ _); rotate_left; (first | omega | (simp <;> omega))) | (with_reducible refine below_drewN ?_ _) | (with_reducible refine Below.drew ?_) | ((with_reducible refine Below.step (by assumption) ?_ ?_); rotate_left; (first | omega | (simp <;> omega)))))).mono ?_; rintro e w1 ⟨rfl, hb1⟩; have HB1 := Lib.hid hb1; clear hb1) | fail)
    go_ret
    exact ⟨by rw [HE.out]; rfl, HB1.out⟩
  have hne : ((r : Int) == 0) = false := by simp; omega
  have hne' : ¬ (r : Int) = 0 := by omega
  have HE : Hid (numF (m : Int) = W ++ 46 :: fracT r) := Lib.hid (by rw [HN.out, if_neg h0])
  have hfl := fracLen_rng r
  have HOK := Lib.hid (fracLen_ok hr)
  have HLE : Hid (∀ k, 1 ≤ k → k < fracLen r → fracOk r k = false) := Lib.hid (fun k h1 h2 => fracLen_least h1 h2)
  have HFT : Hid (fracT r = List.replicate (fracLen r - (decDigits (fracNum r)).length) 48 ++ decDigits (fracNum r)) := Lib.hid rfl
  have HFN : Hid (fracNum r = (r * 10 ^ fracLen r + 255) / 256) := Lib.hid rfl
  generalize fracLen r = L at *
  clear HN h0
  go_enter Tryz.func41, Tryz.ntmps41
  go_wp2_with (first | (go_at_call 37; refine (IN.out _).mono ?_; rintro e w' ⟨rfl, rfl⟩) | (go_at_call 65; refine (HW.out _ (by repeat (first | (with_reducible exact Below.refl _ _) | (with_reducible assumption) | ((with_reducible refine Below.alloc ?_ ?_ _); rotate_left; (first | omega | (simp <;> omega))) | ((with_reducible refine Below.setCell ?_ ?_ _); rotate_left; (first | omega | (simp <;> omega))) | (with_reducible refine below_drewN ?_ _) | (with_reducible refine Below.drew ?_) | ((with_reducible refine Below.step (by assumption) ?_ ?_); rotate_left; (first | omega | (simp <;> omega)))))).mono ?_; rintro e w1 ⟨rfl, hb1⟩; have HB1 := Lib.hid hb1; clear hb1) | fail)
  go_loop [5, 6, 7] (fun d _ _ => ∃ k : Nat, 1 ≤ k ∧ k ≤ L ∧ d = .int .i64 k) (fun d _ _ => 5 - (RowKit.intOf d).toNat)
  case atStart => exact ⟨1, by omega, by omega, rfl⟩
  case round =>
    obtain ⟨k, hk1, hkL, rfl⟩ := hrel
    rcases (show k = 1 ∨ k = 2 ∨ k = 3 by omega) with rfl | rfl | rfl
    · rw [show ((1 : Nat) : Int) = 1 from rfl]
      have f1 : (((r : Int) * 10) + 255).tdiv 256 = (((r * 10 + 255) / 256 : Nat) : Int) := by rw [Int.tdiv_eq_ediv_of_nonneg (by omega)]; omega
      have f0 : IntKind.i64.wrap ((r : Int) * 10) = (r : Int) * 10 := IntWalk.i64_in _ (by omega)
      have f00 : IntKind.i64.wrap ((r : Int) * 10 + 255) = (r : Int) * 10 + 255 := IntWalk.i64_in _ (by omega)
      have hF : (r * 10 + 255) / 256 ≤ 1000 := by omega
      have g1 : (((((r * 10 + 255) / 256 : Nat) : Int)) * 256).tdiv 10 = (((r * 10 + 255) / 256 * 256 / 10 : Nat) : Int) := by rw [Int.tdiv_eq_ediv_of_nonneg (by omega)]; omega
      have HF : Hid (1 = L → (r * 10 + 255) / 256 < 10 ∧ (r * 10 + 255) / 256 * 256 / 10 = r ∧ fracNum r = (r * 10 + 255) / 256) := Lib.hid (fun e => by have h1 := frac_at HOK.out; have h2 := HFN.out; rw [← e] at h1 h2; exact ⟨h1.1, h1.2, h2⟩)
      have HG : Hid (1 < L → ¬ ((r * 10 + 255) / 256 < 10 ∧ (r * 10 + 255) / 256 * 256 / 10 = r)) := Lib.hid (fun e hh => by have h1 := HLE.out 1 (by omega) e; unfold fracOk at h1; simp only [Nat.reducePow, Nat.pow_one] at h1; simp [hh.1, hh.2] at h1)
      have HFX : Hid (∀ x, (r * 10 + 255) / 256 = x → x = (r * 10 + 255) / 256) := Lib.hid (fun x h => h.symm)
      generalize hX : (r * 10 + 255) / 256 = X at *
      have g0 : IntKind.i64.wrap ((X : Int) * 256) = (X : Int) * 256 := IntWalk.i64_in _ (by omega)
      have hY : X * 256 / 10 ≤ 256000 := by omega
      generalize X * 256 / 10 = Y at *
      have yw : IntKind.i64.wrap (Y : Int) = Y := IntWalk.i64_in _ (by omega)
      clear hX HFX
      have POW : Hid (∀ wx, Calls Tryz.prog 66 #[.int .i64 1] wx fun e w' => e = .returned (.int .i64 10) ∧ wx = w') := Lib.hid (fun wx => I_power_is (k := 1) (u := 10) (by rfl) (by omega) wx)
      by_cases hd : 1 = L
      · obtain ⟨a1, a2, a3⟩ := HF.out hd
        have i1 : (X : Int) < 10 := by omega
        have e1 : ((Y : Int) == r) = true := by simp; omega
        have e2 : (Y : Int) = r := by omega
        subst a2
        have hdl : (decDigits X).length ≤ 1 := decDigits_len_le 1 X (by omega) (by omega)
        have HR : Hid (numF (m : Int) = W ++ [46] ++ (List.replicate (1 - (decDigits X).length) 48 ++ decDigits X)) := Lib.hid (by rw [HE.out, HFT.out, a3, ← hd]; simp)
        have HP : Hid (∀ wx, Below w.heap.size w wx → Calls Tryz.prog 65 #[.int .i64 X] wx fun e w' => e = .returned (str (decDigits X)) ∧ Below wx.heap.size wx w') := Lib.hid (fun wx hb => I_FormatInt_nat X (by omega) wx (HT.out.step hb))
        have HRP : Hid (∀ wx, Calls Tryz.prog 67 #[.string ⟨#[48]⟩, .int .i64 ((1 - (decDigits X).length : Nat) : Int)] wx fun e w' => e = .returned (str (List.replicate (1 - (decDigits X).length) 48)) ∧ Below wx.heap.size wx w') := Lib.hid (fun wx => by
          have := Tryz.strings_Repeat ⟨#[48]⟩ (1 - (decDigits X).length) wx (by omega) (by show 1 * _ ≤ _; omega)
          rw [show (⟨#[48]⟩ : ByteArray).data.toList = [48] from rfl, repeatL_one] at this
          exact this)
        generalize decDigits X = D at *
        have hsub : (1 : Int) - (D.length : Int) = ((1 - D.length : Nat) : Int) := by omega
        have hsw : IntKind.i64.wrap ((1 : Int) - (D.length : Int)) = ((1 - D.length : Nat) : Int) := by rw [hsub]; exact IntWalk.i64_in _ (by omega)
        have hrl : (List.replicate (1 - D.length) (48 : UInt8)).length ≤ 3 := by rw [List.length_replicate]; omega
        generalize List.replicate (1 - D.length) (48 : UInt8) = Z at *
        generalize (1 - D.length : Nat) = zc at *
        have l1 : ¬ 9223372036854775807 < W.length + 1 := by omega
        have l2 : ¬ 9223372036854775807 < W.length + 1 + Z.length := by omega
        have l3 : ¬ 9223372036854775807 < W.length + 1 + Z.length + D.length := by omega
        clear a3 HF HG HE HOK HLE HFT HFN hsub
        go_wp2_with (first | (go_at_call 66; refine (POW.out _).mono ?_; rintro e w' ⟨rfl, rfl⟩) | (go_at_call 65; refine (HP.out _ HB1.out).mono ?_; rintro e w2 ⟨rfl, hb2⟩; have HB2 : Hid (Below w.heap.size w w2) := Lib.hid (Below.step hb2 HB1.out HB1.out.size); clear hb2) | (go_at_call 67; refine (HRP.out _).mono ?_; rintro e w3 ⟨rfl, hb3⟩; have HB3 : Hid (Below w.heap.size w w3) := Lib.hid (Below.step hb3 HB2.out HB2.out.size); clear hb3) | fail)
        go_ret
        exact ⟨by rw [HR.out]; show Ending.returned (Value.string (({ data := W.toArray } : ByteArray) ++ { data := [46].toArray } ++ { data := Z.toArray } ++ { data := D.toArray })) = _; rw [str_cat, str_cat, str_cat]; simp, HB3.out⟩
      · have hng := HG.out (by omega)
        by_cases a1 : X < 10
        · have i1 : (X : Int) < 10 := by omega
          have a2 : Y ≠ r := fun h => hng ⟨a1, h⟩
          have e1 : ((Y : Int) == r) = false := by simp; omega
          have e2 : (Y == r) = false := by simpa using a2
          have e3 : ¬ (Y : Int) = r := by omega
          have e4 : decide (Y = r) = false := by simpa using a2
          have e5 : decide ((Y : Int) = r) = false := by simpa using e3
          clear HF HG HE HOK HLE HFT HFN hng
          go_wp2_with (first | (go_at_call 66; refine (POW.out _).mono ?_; rintro e w' ⟨rfl, rfl⟩) | fail)
          go_round
          case rel => exact ⟨2, by omega, by omega, by go_num⟩
          case measure => simp [RowKit.intOf]
        · have i1 : ¬ (X : Int) < 10 := by omega
          clear HF HG HE HOK HLE HFT HFN hng
          go_wp2_with (first | (go_at_call 66; refine (POW.out _).mono ?_; rintro e w' ⟨rfl, rfl⟩) | fail)
          go_round
          case rel => exact ⟨2, by omega, by omega, by go_num⟩
          case measure => simp [RowKit.intOf]
    · rw [show ((2 : Nat) : Int) = 2 from rfl]
      have f1 : (((r : Int) * 100) + 255).tdiv 256 = (((r * 100 + 255) / 256 : Nat) : Int) := by rw [Int.tdiv_eq_ediv_of_nonneg (by omega)]; omega
      have f0 : IntKind.i64.wrap ((r : Int) * 100) = (r : Int) * 100 := IntWalk.i64_in _ (by omega)
      have f00 : IntKind.i64.wrap ((r : Int) * 100 + 255) = (r : Int) * 100 + 255 := IntWalk.i64_in _ (by omega)
      have hF : (r * 100 + 255) / 256 ≤ 1000 := by omega
      have g1 : (((((r * 100 + 255) / 256 : Nat) : Int)) * 256).tdiv 100 = (((r * 100 + 255) / 256 * 256 / 100 : Nat) : Int) := by rw [Int.tdiv_eq_ediv_of_nonneg (by omega)]; omega
      have HF : Hid (2 = L → (r * 100 + 255) / 256 < 100 ∧ (r * 100 + 255) / 256 * 256 / 100 = r ∧ fracNum r = (r * 100 + 255) / 256) := Lib.hid (fun e => by have h1 := frac_at HOK.out; have h2 := HFN.out; rw [← e] at h1 h2; exact ⟨h1.1, h1.2, h2⟩)
      have HG : Hid (2 < L → ¬ ((r * 100 + 255) / 256 < 100 ∧ (r * 100 + 255) / 256 * 256 / 100 = r)) := Lib.hid (fun e hh => by have h1 := HLE.out 2 (by omega) e; unfold fracOk at h1; simp only [Nat.reducePow, Nat.pow_one] at h1; simp [hh.1, hh.2] at h1)
      have HFX : Hid (∀ x, (r * 100 + 255) / 256 = x → x = (r * 100 + 255) / 256) := Lib.hid (fun x h => h.symm)
      generalize hX : (r * 100 + 255) / 256 = X at *
      have g0 : IntKind.i64.wrap ((X : Int) * 256) = (X : Int) * 256 := IntWalk.i64_in _ (by omega)
      have hY : X * 256 / 100 ≤ 256000 := by omega
      generalize X * 256 / 100 = Y at *
      have yw : IntKind.i64.wrap (Y : Int) = Y := IntWalk.i64_in _ (by omega)
      clear hX HFX
      have POW : Hid (∀ wx, Calls Tryz.prog 66 #[.int .i64 2] wx fun e w' => e = .returned (.int .i64 100) ∧ wx = w') := Lib.hid (fun wx => I_power_is (k := 2) (u := 100) (by rfl) (by omega) wx)
      by_cases hd : 2 = L
      · obtain ⟨a1, a2, a3⟩ := HF.out hd
        have i1 : (X : Int) < 100 := by omega
        have e1 : ((Y : Int) == r) = true := by simp; omega
        have e2 : (Y : Int) = r := by omega
        subst a2
        have hdl : (decDigits X).length ≤ 2 := decDigits_len_le 2 X (by omega) (by omega)
        have HR : Hid (numF (m : Int) = W ++ [46] ++ (List.replicate (2 - (decDigits X).length) 48 ++ decDigits X)) := Lib.hid (by rw [HE.out, HFT.out, a3, ← hd]; simp)
        have HP : Hid (∀ wx, Below w.heap.size w wx → Calls Tryz.prog 65 #[.int .i64 X] wx fun e w' => e = .returned (str (decDigits X)) ∧ Below wx.heap.size wx w') := Lib.hid (fun wx hb => I_FormatInt_nat X (by omega) wx (HT.out.step hb))
        have HRP : Hid (∀ wx, Calls Tryz.prog 67 #[.string ⟨#[48]⟩, .int .i64 ((2 - (decDigits X).length : Nat) : Int)] wx fun e w' => e = .returned (str (List.replicate (2 - (decDigits X).length) 48)) ∧ Below wx.heap.size wx w') := Lib.hid (fun wx => by
          have := Tryz.strings_Repeat ⟨#[48]⟩ (2 - (decDigits X).length) wx (by omega) (by show 1 * _ ≤ _; omega)
          rw [show (⟨#[48]⟩ : ByteArray).data.toList = [48] from rfl, repeatL_one] at this
          exact this)
        generalize decDigits X = D at *
        have hsub : (2 : Int) - (D.length : Int) = ((2 - D.length : Nat) : Int) := by omega
        have hsw : IntKind.i64.wrap ((2 : Int) - (D.length : Int)) = ((2 - D.length : Nat) : Int) := by rw [hsub]; exact IntWalk.i64_in _ (by omega)
        have hrl : (List.replicate (2 - D.length) (48 : UInt8)).length ≤ 3 := by rw [List.length_replicate]; omega
        generalize List.replicate (2 - D.length) (48 : UInt8) = Z at *
        generalize (2 - D.length : Nat) = zc at *
        have l1 : ¬ 9223372036854775807 < W.length + 1 := by omega
        have l2 : ¬ 9223372036854775807 < W.length + 1 + Z.length := by omega
        have l3 : ¬ 9223372036854775807 < W.length + 1 + Z.length + D.length := by omega
        clear a3 HF HG HE HOK HLE HFT HFN hsub
        go_wp2_with (first | (go_at_call 66; refine (POW.out _).mono ?_; rintro e w' ⟨rfl, rfl⟩) | (go_at_call 65; refine (HP.out _ HB1.out).mono ?_; rintro e w2 ⟨rfl, hb2⟩; have HB2 : Hid (Below w.heap.size w w2) := Lib.hid (Below.step hb2 HB1.out HB1.out.size); clear hb2) | (go_at_call 67; refine (HRP.out _).mono ?_; rintro e w3 ⟨rfl, hb3⟩; have HB3 : Hid (Below w.heap.size w w3) := Lib.hid (Below.step hb3 HB2.out HB2.out.size); clear hb3) | fail)
        go_ret
        exact ⟨by rw [HR.out]; show Ending.returned (Value.string (({ data := W.toArray } : ByteArray) ++ { data := [46].toArray } ++ { data := Z.toArray } ++ { data := D.toArray })) = _; rw [str_cat, str_cat, str_cat]; simp, HB3.out⟩
      · have hng := HG.out (by omega)
        by_cases a1 : X < 100
        · have i1 : (X : Int) < 100 := by omega
          have a2 : Y ≠ r := fun h => hng ⟨a1, h⟩
          have e1 : ((Y : Int) == r) = false := by simp; omega
          have e2 : (Y == r) = false := by simpa using a2
          have e3 : ¬ (Y : Int) = r := by omega
          have e4 : decide (Y = r) = false := by simpa using a2
          have e5 : decide ((Y : Int) = r) = false := by simpa using e3
          clear HF HG HE HOK HLE HFT HFN hng
          go_wp2_with (first | (go_at_call 66; refine (POW.out _).mono ?_; rintro e w' ⟨rfl, rfl⟩) | fail)
          go_round
          case rel => exact ⟨3, by omega, by omega, by go_num⟩
          case measure => simp [RowKit.intOf]
        · have i1 : ¬ (X : Int) < 100 := by omega
          clear HF HG HE HOK HLE HFT HFN hng
          go_wp2_with (first | (go_at_call 66; refine (POW.out _).mono ?_; rintro e w' ⟨rfl, rfl⟩) | fail)
          go_round
          case rel => exact ⟨3, by omega, by omega, by go_num⟩
          case measure => simp [RowKit.intOf]
    · rw [show ((3 : Nat) : Int) = 3 from rfl]
      have f1 : (((r : Int) * 1000) + 255).tdiv 256 = (((r * 1000 + 255) / 256 : Nat) : Int) := by rw [Int.tdiv_eq_ediv_of_nonneg (by omega)]; omega
      have f0 : IntKind.i64.wrap ((r : Int) * 1000) = (r : Int) * 1000 := IntWalk.i64_in _ (by omega)
      have f00 : IntKind.i64.wrap ((r : Int) * 1000 + 255) = (r : Int) * 1000 + 255 := IntWalk.i64_in _ (by omega)
      have hF : (r * 1000 + 255) / 256 ≤ 1000 := by omega
      have g1 : (((((r * 1000 + 255) / 256 : Nat) : Int)) * 256).tdiv 1000 = (((r * 1000 + 255) / 256 * 256 / 1000 : Nat) : Int) := by rw [Int.tdiv_eq_ediv_of_nonneg (by omega)]; omega
      have HF : Hid (3 = L → (r * 1000 + 255) / 256 < 1000 ∧ (r * 1000 + 255) / 256 * 256 / 1000 = r ∧ fracNum r = (r * 1000 + 255) / 256) := Lib.hid (fun e => by have h1 := frac_at HOK.out; have h2 := HFN.out; rw [← e] at h1 h2; exact ⟨h1.1, h1.2, h2⟩)
      have HG : Hid (3 < L → ¬ ((r * 1000 + 255) / 256 < 1000 ∧ (r * 1000 + 255) / 256 * 256 / 1000 = r)) := Lib.hid (fun e hh => by have h1 := HLE.out 3 (by omega) e; unfold fracOk at h1; simp only [Nat.reducePow, Nat.pow_one] at h1; simp [hh.1, hh.2] at h1)
      have HFX : Hid (∀ x, (r * 1000 + 255) / 256 = x → x = (r * 1000 + 255) / 256) := Lib.hid (fun x h => h.symm)
      generalize hX : (r * 1000 + 255) / 256 = X at *
      have g0 : IntKind.i64.wrap ((X : Int) * 256) = (X : Int) * 256 := IntWalk.i64_in _ (by omega)
      have hY : X * 256 / 1000 ≤ 256000 := by omega
      generalize X * 256 / 1000 = Y at *
      have yw : IntKind.i64.wrap (Y : Int) = Y := IntWalk.i64_in _ (by omega)
      clear hX HFX
      have POW : Hid (∀ wx, Calls Tryz.prog 66 #[.int .i64 3] wx fun e w' => e = .returned (.int .i64 1000) ∧ wx = w') := Lib.hid (fun wx => I_power_is (k := 3) (u := 1000) (by rfl) (by omega) wx)
      by_cases hd : 3 = L
      · obtain ⟨a1, a2, a3⟩ := HF.out hd
        have i1 : (X : Int) < 1000 := by omega
        have e1 : ((Y : Int) == r) = true := by simp; omega
        have e2 : (Y : Int) = r := by omega
        subst a2
        have hdl : (decDigits X).length ≤ 3 := decDigits_len_le 3 X (by omega) (by omega)
        have HR : Hid (numF (m : Int) = W ++ [46] ++ (List.replicate (3 - (decDigits X).length) 48 ++ decDigits X)) := Lib.hid (by rw [HE.out, HFT.out, a3, ← hd]; simp)
        have HP : Hid (∀ wx, Below w.heap.size w wx → Calls Tryz.prog 65 #[.int .i64 X] wx fun e w' => e = .returned (str (decDigits X)) ∧ Below wx.heap.size wx w') := Lib.hid (fun wx hb => I_FormatInt_nat X (by omega) wx (HT.out.step hb))
        have HRP : Hid (∀ wx, Calls Tryz.prog 67 #[.string ⟨#[48]⟩, .int .i64 ((3 - (decDigits X).length : Nat) : Int)] wx fun e w' => e = .returned (str (List.replicate (3 - (decDigits X).length) 48)) ∧ Below wx.heap.size wx w') := Lib.hid (fun wx => by
          have := Tryz.strings_Repeat ⟨#[48]⟩ (3 - (decDigits X).length) wx (by omega) (by show 1 * _ ≤ _; omega)
          rw [show (⟨#[48]⟩ : ByteArray).data.toList = [48] from rfl, repeatL_one] at this
          exact this)
        generalize decDigits X = D at *
        have hsub : (3 : Int) - (D.length : Int) = ((3 - D.length : Nat) : Int) := by omega
        have hsw : IntKind.i64.wrap ((3 : Int) - (D.length : Int)) = ((3 - D.length : Nat) : Int) := by rw [hsub]; exact IntWalk.i64_in _ (by omega)
        have hrl : (List.replicate (3 - D.length) (48 : UInt8)).length ≤ 3 := by rw [List.length_replicate]; omega
        generalize List.replicate (3 - D.length) (48 : UInt8) = Z at *
        generalize (3 - D.length : Nat) = zc at *
        have l1 : ¬ 9223372036854775807 < W.length + 1 := by omega
        have l2 : ¬ 9223372036854775807 < W.length + 1 + Z.length := by omega
        have l3 : ¬ 9223372036854775807 < W.length + 1 + Z.length + D.length := by omega
        clear a3 HF HG HE HOK HLE HFT HFN hsub
        go_wp2_with (first | (go_at_call 66; refine (POW.out _).mono ?_; rintro e w' ⟨rfl, rfl⟩) | (go_at_call 65; refine (HP.out _ HB1.out).mono ?_; rintro e w2 ⟨rfl, hb2⟩; have HB2 : Hid (Below w.heap.size w w2) := Lib.hid (Below.step hb2 HB1.out HB1.out.size); clear hb2) | (go_at_call 67; refine (HRP.out _).mono ?_; rintro e w3 ⟨rfl, hb3⟩; have HB3 : Hid (Below w.heap.size w w3) := Lib.hid (Below.step hb3 HB2.out HB2.out.size); clear hb3) | fail)
        go_ret
        exact ⟨by rw [HR.out]; show Ending.returned (Value.string (({ data := W.toArray } : ByteArray) ++ { data := [46].toArray } ++ { data := Z.toArray } ++ { data := D.toArray })) = _; rw [str_cat, str_cat, str_cat]; simp, HB3.out⟩
      · exact absurd (by omega) hd
end Go.Proofs.YtnlbojckobgjpaaGreatDoor
