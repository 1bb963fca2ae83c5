/- The reference's lexer: digits, letters, numbers. -/
import Derived.Test.YtnlbojckobgjpaaGreatDoorMgE
import Derived.Test.YtnlbojckobgjpaaGreatDoorMgA
import Derived.BigQuiet
import Derived.Deep.Cut
import Derived.LoopTactic
set_option linter.unusedVariables false
set_option linter.unusedSimpArgs false
namespace Go.Proofs.YtnlbojckobgjpaaGreatDoor
open Go.RowKit Go.Lib
set_option maxRecDepth 100000
theorem lx_at {l : List UInt8} {i : Nat} {b : UInt8} (h : l[i]? = some b) : ∀ hh : i < ByteArray.size ⟨l.toArray⟩, ({ data := l.toArray } : ByteArray)[i]'hh = b := fun hh => (List.getElem?_eq_some_iff.1 h).2
theorem isDg_dec (b : UInt8) : isDg b = (decide (48 ≤ (b.toNat : Int)) && decide ((b.toNat : Int) ≤ 57)) := by
  rw [Bool.eq_iff_iff, isDg_nat]; simp; omega
theorem isLt_dec (b : UInt8) : isLt b = (decide (97 ≤ (b.toNat : Int)) && decide ((b.toNat : Int) ≤ 122)) := by
  rw [Bool.eq_iff_iff, isLt_nat]; simp; omega
set_option maxHeartbeats 1000000 in
theorem S_l12Digit (b : UInt8) (w : World) : Calls Tryz.prog 84 #[.int .u8 b.toNat] w fun e w' => e = .returned (.bool (isDg b)) ∧ w = w' := by
  rw [isDg_dec]
  generalize (b.toNat : Int) = x
  by_cases h1 : 48 ≤ x
  · go_enter Tryz.func84, Tryz.ntmps84
    go_wp2_with fail
    go_ret
    exact ⟨ret_bool (by simp [h1]), rfl⟩
  · go_enter Tryz.func84, Tryz.ntmps84
    go_wp2_with fail
    go_ret
    exact ⟨ret_bool (by simp; omega), rfl⟩
set_option maxHeartbeats 1000000 in
theorem S_l12Letter (b : UInt8) (w : World) : Calls Tryz.prog 86 #[.int .u8 b.toNat] w fun e w' => e = .returned (.bool (isLt b)) ∧ w = w' := by
  rw [isLt_dec]
  generalize (b.toNat : Int) = x
  by_cases h1 : 97 ≤ x
  · go_enter Tryz.func86, Tryz.ntmps86
    go_wp2_with fail
    go_ret
    exact ⟨ret_bool (by simp [h1]), rfl⟩
  · go_enter Tryz.func86, Tryz.ntmps86
    go_wp2_with fail
    go_ret
    exact ⟨ret_bool (by simp; omega), rfl⟩
/-- What l12Number answers. -/
def NumRes (src : List UInt8) (a : Nat) (v : Value) : Prop :=
  match numTok (src.drop a) with
  | none => ∃ (e : Nat) (n : Int), v = .tuple #[.int .i64 e, .int .i64 n, .bool false] ∧ a ≤ e ∧ e ≤ src.length
  | some (m, n) => v = .tuple #[.int .i64 ((a + m : Nat) : Int), .int .i64 (n : Int), .bool true]
theorem NumRes.no {src : List UInt8} {a e : Nat} {n : Int} (h : numTok (src.drop a) = none) (h1 : a ≤ e) (h2 : e ≤ src.length) : NumRes src a (.tuple #[.int .i64 e, .int .i64 n, .bool false]) := by unfold NumRes; rw [h]; exact ⟨e, n, rfl, h1, h2⟩
theorem NumRes.yes {src : List UInt8} {a m n : Nat} (h : numTok (src.drop a) = some (m, n)) : NumRes src a (.tuple #[.int .i64 ((a + m : Nat) : Int), .int .i64 (n : Int), .bool true]) := by unfold NumRes; rw [h]
theorem dig_of {b : UInt8} (h : 48 ≤ b.toNat ∧ b.toNat ≤ 57) : ∃ d : Nat, d ≤ 9 ∧ IntKind.u8.wrap ((b.toNat : Int) - 48) = d ∧ b.toNat - 48 = d := by
  refine ⟨b.toNat - 48, by omega, ?_, rfl⟩
  rw [show (b.toNat : Int) - 48 = ((b.toNat - 48 : Nat) : Int) by omega]
  show IntKind.u8.wrap _ = _
  unfold IntKind.wrap
  simp [IntKind.bits, IntKind.signed]
  omega
set_option maxHeartbeats 4000000 in
theorem S_l12Number {src : List UInt8} {a : Nat} (w : World) (ha : a ≤ src.length) (hs : src.length ≤ 1048576) :
    Calls Tryz.prog 85 #[str src, .int .i64 a] w fun e w' => ∃ v, e = .returned v ∧ NumRes src a v ∧ Below w.heap.size w w' := by
  have HD : Hid (∀ (b : UInt8) wx, Calls Tryz.prog 84 #[.int .u8 b.toNat] wx fun e w' => e = .returned (.bool (isDg b)) ∧ wx = w') := Lib.hid S_l12Digit
  have HSD : Hid (∀ j, (src.drop a)[j]? = src[a + j]?) := Lib.hid (fun j => by rw [List.getElem?_drop])
  go_enter Tryz.func85, Tryz.ntmps85
  go_wp2_with fail
  go_loop [7, 8] (fun p v => ∃ i : Nat, a ≤ i ∧ i ≤ src.length ∧ i - a ≤ 6 ∧ p = .int .i64 i ∧ DG (src.drop a) (i - a) ∧ v = .int .i64 (valD ((src.drop a).take (i - a)) : Int)) (fun p _ => src.length - (RowKit.intOf p).toNat)
  case atStart => exact ⟨a, Nat.le_refl _, ha, by omega, rfl, by rw [Nat.sub_self]; exact DG.zero _, by rw [Nat.sub_self]; rfl⟩
  case round =>
    obtain ⟨i, hai, hil, hi6, rfl, hdg, rfl⟩ := hrel
    have hv6 : valD ((src.drop a).take (i - a)) < 1000000 := Nat.lt_of_lt_of_le hdg.val (Nat.pow_le_pow_right (by omega) hi6)
    have HDG := Lib.hid hdg
    obtain ⟨V, hV⟩ : ∃ V, valD ((src.drop a).take (i - a)) = V := ⟨_, rfl⟩
    have HV := Lib.hid hV
    rw [hV] at hv6 ⊢
    clear hdg hV
    have hat0 := HSD.out (i - a)
    rw [show a + (i - a) = i by omega] at hat0
    have HAT := Lib.hid hat0
    clear hat0
    rcases Nat.lt_or_ge i src.length with hlt | hge
    · obtain ⟨b, hb⟩ : ∃ b, src[i]? = some b := ⟨_, List.getElem?_eq_getElem hlt⟩
      have hat := lx_at hb
      have HB := Lib.hid (HAT.out.trans hb)
      have hlt' : (i : Int) < src.length := by omega
      clear hb
      by_cases hdig : 48 ≤ b.toNat ∧ b.toNat ≤ 57
      · have HQ : Hid (∀ wx, Calls Tryz.prog 84 #[.int .u8 b.toNat] wx fun e w' => e = .returned (.bool true) ∧ wx = w') := Lib.hid (fun wx => by have := HD.out b wx; rw [(isDg_nat b).2 hdig] at this; exact this)
        obtain ⟨d, hd9, hd0, hdn⟩ := dig_of hdig
        have HN := Lib.hid (HDG.out.succ HB.out hdig)
        have HW := Lib.hid (valD_succ HB.out)
        have hd2 : IntKind.i64.wrap (d : Int) = d := IntWalk.i64_in _ (by omega)
        clear hdig
        by_cases h5 : i - a = 6
        · have h5a : ¬ (i : Int) - a ≤ 5 := by omega
          have h5b : (4 : Int) < (i : Int) - a := by omega
          have HF : Hid (numTok (src.drop a) = none) := Lib.hid (numTok_big (by have := HDG.out.span; omega))
          go_wp2_with (first | (go_at_call 84; refine (HQ.out _).mono ?_; rintro e w' ⟨rfl, rfl⟩) | fail)
          exact bodyPost_ret (v := .tuple #[.int .i64 i, .int .i64 0, .bool false]) (by simp [results, Tryz.results85, go_sem]) rfl ⟨_, rfl, NumRes.no HF.out hai hil, (by repeat (first | (with_reducible exact Below.refl _ _) | (with_reducible assumption) | ((with_reducible refine Below.alloc ?_ ?_ _); rotate_left; (first | omega | (simp <;> omega))) | ((with_reducible refine Below.setCell ?_ ?_ _); rotate_left; (first | omega | (simp <;> omega))) | (with_reducible refine below_drewN ?_ _) | (with_reducible refine Below.drew ?_) | ((with_reducible refine Below.step (by assumption) ?_ ?_); rotate_left; (first | omega | (simp <;> omega)))))⟩
        · have h5a : (i : Int) - a ≤ 5 := by omega
          go_wp2_with (first | (go_at_call 84; refine (HQ.out _).mono ?_; rintro e w' ⟨rfl, rfl⟩) | fail)
          go_round
          case rel => exact ⟨i + 1, by omega, by omega, by omega, by go_num, by rw [show i + 1 - a = i - a + 1 by omega]; exact HN.out, by rw [show i + 1 - a = i - a + 1 by omega, HW.out, HV.out, hdn]; go_num⟩
          case measure => simp [RowKit.intOf]; omega
      · have HQ : Hid (∀ wx, Calls Tryz.prog 84 #[.int .u8 b.toNat] wx fun e w' => e = .returned (.bool false) ∧ wx = w') := Lib.hid (fun wx => by have := HD.out b wx; rw [isDg_not hdig] at this; exact this)
        have HSP := Lib.hid (HDG.out.span_not HB.out hdig)
        clear hdig
        by_cases h4 : 4 < i - a
        · have h5b : (4 : Int) < (i : Int) - a := by omega
          have HF : Hid (numTok (src.drop a) = none) := Lib.hid (numTok_big (by rw [HSP.out]; exact h4))
          go_wp2_with (first | (go_at_call 84; refine (HQ.out _).mono ?_; rintro e w' ⟨rfl, rfl⟩) | fail)
          exact bodyPost_ret (v := .tuple #[.int .i64 i, .int .i64 0, .bool false]) (by simp [results, Tryz.results85, go_sem]) rfl ⟨_, rfl, NumRes.no HF.out hai hil, (by repeat (first | (with_reducible exact Below.refl _ _) | (with_reducible assumption) | ((with_reducible refine Below.alloc ?_ ?_ _); rotate_left; (first | omega | (simp <;> omega))) | ((with_reducible refine Below.setCell ?_ ?_ _); rotate_left; (first | omega | (simp <;> omega))) | (with_reducible refine below_drewN ?_ _) | (with_reducible refine Below.drew ?_) | ((with_reducible refine Below.step (by assumption) ?_ ?_); rotate_left; (first | omega | (simp <;> omega)))))⟩
        · have h5b : ¬ (4 : Int) < (i : Int) - a := by omega
          have hne : ((i : Int) == src.length) = false := by simp; omega
          by_cases h46 : b.toNat = 46
          · have H46 : Hid ((src.drop a)[i - a]? = some 46) := Lib.hid (by rw [HB.out]; congr 1; exact UInt8.toNat_inj.1 h46)
            have HDR : Hid ((src.drop a).drop (i - a + 1) = src.drop (i + 1)) := Lib.hid (by rw [List.drop_drop]; congr 1; omega)
            have hi1 : i + 1 ≤ src.length := hlt
            obtain rfl : b = 46 := UInt8.toNat_inj.1 h46
            have HQ46 : Hid (∀ wx, Calls Tryz.prog 84 #[.int .u8 46] wx fun e w' => e = .returned (.bool false) ∧ wx = w') := Lib.hid HQ.out
            clear h46
            go_wp2_with (first | (go_at_call 84; refine (HQ46.out _).mono ?_; rintro e w' ⟨rfl, rfl⟩) | fail)
            go_loop [7, 10, 11] (fun p v u => ∃ j : Nat, i + 1 ≤ j ∧ j ≤ src.length ∧ j - (i + 1) ≤ 6 ∧ p = .int .i64 j ∧ DG (src.drop (i + 1)) (j - (i + 1)) ∧ v = .int .i64 (valD ((src.drop (i + 1)).take (j - (i + 1))) : Int) ∧ u = .int .i64 ((10 ^ (j - (i + 1)) : Nat) : Int)) (fun p _ _ => src.length - (RowKit.intOf p).toNat)
            case atStart => exact ⟨i + 1, Nat.le_refl _, hi1, by omega, by go_num, by rw [Nat.sub_self]; exact DG.zero _, by rw [Nat.sub_self]; rfl, by rw [Nat.sub_self]; rfl⟩
            case round =>
              obtain ⟨j, haj, hjl, hj6, rfl, hdg, rfl, rfl⟩ := hrel
              have hf6 : valD ((src.drop (i + 1)).take (j - (i + 1))) < 1000000 := Nat.lt_of_lt_of_le hdg.val (Nat.pow_le_pow_right (by omega) hj6)
              have HDG2 := Lib.hid hdg
              obtain ⟨F, hF⟩ : ∃ F, valD ((src.drop (i + 1)).take (j - (i + 1))) = F := ⟨_, rfl⟩
              have HFV := Lib.hid hF
              rw [hF] at hf6 ⊢
              clear hdg hF hat
              have hat0 : (src.drop (i + 1))[j - (i + 1)]? = src[j]? := by rw [List.getElem?_drop]; congr 1; omega
              have HAT2 := Lib.hid hat0
              clear hat0
              rcases Nat.lt_or_ge j src.length with hlt2 | hge
              · obtain ⟨b2, hb2⟩ : ∃ b2, src[j]? = some b2 := ⟨_, List.getElem?_eq_getElem hlt2⟩
                have hat2 := lx_at hb2
                have HB2 := Lib.hid (HAT2.out.trans hb2)
                have hlt2' : (j : Int) < src.length := by omega
                clear hb2
                by_cases hdig : 48 ≤ b2.toNat ∧ b2.toNat ≤ 57
                · have HQ2 : Hid (∀ wx, Calls Tryz.prog 84 #[.int .u8 b2.toNat] wx fun e w' => e = .returned (.bool true) ∧ wx = w') := Lib.hid (fun wx => by have := HD.out b2 wx; rw [(isDg_nat b2).2 hdig] at this; exact this)
                  obtain ⟨d, hd9, hd0, hdn⟩ := dig_of hdig
                  have HN := Lib.hid (HDG2.out.succ HB2.out hdig)
                  have HW := Lib.hid (valD_succ HB2.out)
                  have hd2 : IntKind.i64.wrap (d : Int) = d := IntWalk.i64_in _ (by omega)
                  clear hdig
                  by_cases h5 : j - (i + 1) = 6
                  · have h5a : ¬ (j : Int) - (i + 1) ≤ 5 := by omega
                    have h5b : (4 : Int) < (j : Int) - (i + 1) := by omega
                    have e1 : ((j : Int) == ((i : Int) + 1)) = false := by simp; omega
                    have HF : Hid (numTok (src.drop a) = none) := Lib.hid (numTok_bad HSP.out H46.out rfl (by rw [HDR.out]; have := HDG2.out.span; omega))
                    go_wp2_with (first | (go_at_call 84; refine (HQ.out _).mono ?_; rintro e w' ⟨rfl, rfl⟩) | (go_at_call 84; refine (HQ2.out _).mono ?_; rintro e w' ⟨rfl, rfl⟩) | fail)
                    exact bodyPost_ret (v := .tuple #[.int .i64 j, .int .i64 0, .bool false]) (by simp [results, Tryz.results85, go_sem]) rfl ⟨_, rfl, NumRes.no HF.out (by omega) (by omega), (by repeat (first | (with_reducible exact Below.refl _ _) | (with_reducible assumption) | ((with_reducible refine Below.alloc ?_ ?_ _); rotate_left; (first | omega | (simp <;> omega))) | ((with_reducible refine Below.setCell ?_ ?_ _); rotate_left; (first | omega | (simp <;> omega))) | (with_reducible refine below_drewN ?_ _) | (with_reducible refine Below.drew ?_) | ((with_reducible refine Below.step (by assumption) ?_ ?_); rotate_left; (first | omega | (simp <;> omega)))))⟩
                  · have h5a : (j : Int) - (i + 1) ≤ 5 := by omega
                    have hp10 : (10 ^ (j - (i + 1)) : Nat) ≤ 1000000 := Nat.pow_le_pow_right (n := 10) (by omega) hj6
                    have HP10 : Hid ((10 ^ (j + 1 - (i + 1)) : Nat) = 10 ^ (j - (i + 1)) * 10) := Lib.hid (by rw [show j + 1 - (i + 1) = j - (i + 1) + 1 by omega, Nat.pow_succ])
                    obtain ⟨U, hU⟩ : ∃ U, 10 ^ (j - (i + 1)) = U := ⟨_, rfl⟩
                    have HU := Lib.hid hU
                    rw [hU] at hp10 ⊢
                    clear hU
                    go_wp2_with (first | (go_at_call 84; refine (HQ.out _).mono ?_; rintro e w' ⟨rfl, rfl⟩) | (go_at_call 84; refine (HQ2.out _).mono ?_; rintro e w' ⟨rfl, rfl⟩) | fail)
                    go_round
                    case rel => exact ⟨j + 1, by omega, by omega, by omega, by go_num, by rw [show j + 1 - (i + 1) = j - (i + 1) + 1 by omega]; exact HN.out, by rw [show j + 1 - (i + 1) = j - (i + 1) + 1 by omega, HW.out, HFV.out, hdn]; go_num, by rw [HP10.out, HU.out]; go_num⟩
                    case measure => simp [RowKit.intOf]; omega
                · have HQ2 : Hid (∀ wx, Calls Tryz.prog 84 #[.int .u8 b2.toNat] wx fun e w' => e = .returned (.bool false) ∧ wx = w') := Lib.hid (fun wx => by have := HD.out b2 wx; rw [isDg_not hdig] at this; exact this)
                  have HSP2 : Hid (spanN isDg ((src.drop a).drop (i - a + 1)) = j - (i + 1)) := Lib.hid (by rw [HDR.out]; exact HDG2.out.span_not HB2.out hdig)
                  clear hdig
                  rcases (show j - (i + 1) < 1 ∨ 4 < j - (i + 1) ∨ (1 ≤ j - (i + 1) ∧ j - (i + 1) ≤ 4) by omega) with h7 | h7 | ⟨h7, h8⟩
                  · have HF : Hid (numTok (src.drop a) = none) := Lib.hid (numTok_bad HSP.out H46.out HSP2.out (.inl h7))
                    have e1 : ((j : Int) == ((i : Int) + 1)) = true := by simp; omega
                    go_wp2_with (first | (go_at_call 84; refine (HQ.out _).mono ?_; rintro e w' ⟨rfl, rfl⟩) | (go_at_call 84; refine (HQ2.out _).mono ?_; rintro e w' ⟨rfl, rfl⟩) | fail)
                    exact bodyPost_ret (v := .tuple #[.int .i64 j, .int .i64 0, .bool false]) (by simp [results, Tryz.results85, go_sem]) rfl ⟨_, rfl, NumRes.no HF.out (by omega) (by omega), (by repeat (first | (with_reducible exact Below.refl _ _) | (with_reducible assumption) | ((with_reducible refine Below.alloc ?_ ?_ _); rotate_left; (first | omega | (simp <;> omega))) | ((with_reducible refine Below.setCell ?_ ?_ _); rotate_left; (first | omega | (simp <;> omega))) | (with_reducible refine below_drewN ?_ _) | (with_reducible refine Below.drew ?_) | ((with_reducible refine Below.step (by assumption) ?_ ?_); rotate_left; (first | omega | (simp <;> omega)))))⟩
                  · have HF : Hid (numTok (src.drop a) = none) := Lib.hid (numTok_bad HSP.out H46.out HSP2.out (.inr h7))
                    have e1 : ((j : Int) == ((i : Int) + 1)) = false := by simp; omega
                    have e2 : (4 : Int) < (j : Int) - (i + 1) := by omega
                    go_wp2_with (first | (go_at_call 84; refine (HQ.out _).mono ?_; rintro e w' ⟨rfl, rfl⟩) | (go_at_call 84; refine (HQ2.out _).mono ?_; rintro e w' ⟨rfl, rfl⟩) | fail)
                    exact bodyPost_ret (v := .tuple #[.int .i64 j, .int .i64 0, .bool false]) (by simp [results, Tryz.results85, go_sem]) rfl ⟨_, rfl, NumRes.no HF.out (by omega) (by omega), (by repeat (first | (with_reducible exact Below.refl _ _) | (with_reducible assumption) | ((with_reducible refine Below.alloc ?_ ?_ _); rotate_left; (first | omega | (simp <;> omega))) | ((with_reducible refine Below.setCell ?_ ?_ _); rotate_left; (first | omega | (simp <;> omega))) | (with_reducible refine below_drewN ?_ _) | (with_reducible refine Below.drew ?_) | ((with_reducible refine Below.step (by assumption) ?_ ?_); rotate_left; (first | omega | (simp <;> omega)))))⟩
                  · have HF : Hid (numTok (src.drop a) = some (i - a + 1 + (j - (i + 1)), V * 256 + F * 256 / 10 ^ (j - (i + 1)))) := Lib.hid (by have := numTok_dot HSP.out h4 H46.out HSP2.out (by omega); rw [HV.out, HDR.out, HFV.out] at this; exact this)
                    obtain ⟨U, hU⟩ : ∃ U, 10 ^ (j - (i + 1)) = U := ⟨_, rfl⟩
                    have hU0 : 0 < U := by rw [← hU]; exact Nat.pow_pos (by omega)
                    have hU1 : U ≤ 10000 := by rw [← hU]; exact Nat.pow_le_pow_right (by omega) h8
                    rw [hU] at HF
                    rw [hU]
                    have hU2 : ¬ U = 0 := by omega
                    have hdl : F * 256 / U ≤ F * 256 := Nat.div_le_self _ _
                    obtain ⟨Q, hQn⟩ : ∃ Q, F * 256 / U = Q := ⟨_, rfl⟩
                    have hQl : Q ≤ F * 256 := by rw [← hQn]; exact hdl
                    have hQ : (F : Int) * 256 / U = (Q : Int) := by rw [← hQn]; simp
                    have hww : IntKind.i64.wrap ((V : Int) * 256 + IntKind.i64.wrap ((F : Int) * 256 / U)) = (V : Int) * 256 + (F : Int) * 256 / U := by rw [hQ, IntWalk.i64_in (Q : Int) (by omega), IntWalk.i64_in ((V : Int) * 256 + Q) (by omega)]
                    have hdv : Int.tdiv ((F : Int) * 256) U = ((F * 256 / U : Nat) : Int) := by rw [show ((F : Int) * 256) = ((F * 256 : Nat) : Int) by omega]; rfl
                    have e1 : ((j : Int) == ((i : Int) + 1)) = false := by simp; omega
                    have e2 : ¬ (4 : Int) < (j : Int) - (i + 1) := by omega
                    clear hU
                    go_upto_region 20 with (first | (go_at_call 84; refine (HQ.out _).mono ?_; rintro e w' ⟨rfl, rfl⟩) | (go_at_call 84; refine (HQ2.out _).mono ?_; rintro e w' ⟨rfl, rfl⟩) | fail)
                    go_quiet (fail)
                    (try go_wp2_with fail)
                    exact bodyPost_ret (v := .tuple #[.int .i64 j, .int .i64 ((V * 256 + F * 256 / U : Nat) : Int), .bool true]) (by simp [results, Tryz.results85, go_sem, hdv]; exact hQ.symm) rfl ⟨_, rfl, by have := NumRes.yes HF.out; rw [show a + (i - a + 1 + (j - (i + 1))) = j by omega] at this; exact this, (by repeat (first | (with_reducible exact Below.refl _ _) | (with_reducible assumption) | ((with_reducible refine Below.alloc ?_ ?_ _); rotate_left; (first | omega | (simp <;> omega))) | ((with_reducible refine Below.setCell ?_ ?_ _); rotate_left; (first | omega | (simp <;> omega))) | (with_reducible refine below_drewN ?_ _) | (with_reducible refine Below.drew ?_) | ((with_reducible refine Below.step (by assumption) ?_ ?_); rotate_left; (first | omega | (simp <;> omega)))))⟩
              · obtain ⟨n, hn⟩ : ∃ n, src.length = n := ⟨_, rfl⟩
                obtain rfl : j = src.length := by omega
                have HSP2 : Hid (spanN isDg ((src.drop a).drop (i - a + 1)) = src.length - (i + 1)) := Lib.hid (by rw [HDR.out]; exact HDG2.out.span_end (by rw [HAT2.out]; exact List.getElem?_eq_none (Nat.le_refl _)))
                clear hn
                rcases (show src.length - (i + 1) < 1 ∨ 4 < src.length - (i + 1) ∨ (1 ≤ src.length - (i + 1) ∧ src.length - (i + 1) ≤ 4) by omega) with h7 | h7 | ⟨h7, h8⟩
                · have HF : Hid (numTok (src.drop a) = none) := Lib.hid (numTok_bad HSP.out H46.out HSP2.out (.inl h7))
                  have e1 : ((src.length : Int) == ((i : Int) + 1)) = true := by simp; omega
                  go_wp2_with fail
                  exact bodyPost_ret (v := .tuple #[.int .i64 src.length, .int .i64 0, .bool false]) (by simp [results, Tryz.results85, go_sem]) rfl ⟨_, rfl, NumRes.no HF.out (by omega) (by omega), (by repeat (first | (with_reducible exact Below.refl _ _) | (with_reducible assumption) | ((with_reducible refine Below.alloc ?_ ?_ _); rotate_left; (first | omega | (simp <;> omega))) | ((with_reducible refine Below.setCell ?_ ?_ _); rotate_left; (first | omega | (simp <;> omega))) | (with_reducible refine below_drewN ?_ _) | (with_reducible refine Below.drew ?_) | ((with_reducible refine Below.step (by assumption) ?_ ?_); rotate_left; (first | omega | (simp <;> omega)))))⟩
                · have HF : Hid (numTok (src.drop a) = none) := Lib.hid (numTok_bad HSP.out H46.out HSP2.out (.inr h7))
                  have e1 : ((src.length : Int) == ((i : Int) + 1)) = false := by simp; omega
                  have e2 : (4 : Int) < (src.length : Int) - (i + 1) := by omega
                  go_wp2_with fail
                  exact bodyPost_ret (v := .tuple #[.int .i64 src.length, .int .i64 0, .bool false]) (by simp [results, Tryz.results85, go_sem]) rfl ⟨_, rfl, NumRes.no HF.out (by omega) (by omega), (by repeat (first | (with_reducible exact Below.refl _ _) | (with_reducible assumption) | ((with_reducible refine Below.alloc ?_ ?_ _); rotate_left; (first | omega | (simp <;> omega))) | ((with_reducible refine Below.setCell ?_ ?_ _); rotate_left; (first | omega | (simp <;> omega))) | (with_reducible refine below_drewN ?_ _) | (with_reducible refine Below.drew ?_) | ((with_reducible refine Below.step (by assumption) ?_ ?_); rotate_left; (first | omega | (simp <;> omega)))))⟩
                · have HF : Hid (numTok (src.drop a) = some (i - a + 1 + (src.length - (i + 1)), V * 256 + F * 256 / 10 ^ (src.length - (i + 1)))) := Lib.hid (by have := numTok_dot HSP.out h4 H46.out HSP2.out (by omega); rw [HV.out, HDR.out, HFV.out] at this; exact this)
                  obtain ⟨U, hU⟩ : ∃ U, 10 ^ (src.length - (i + 1)) = U := ⟨_, rfl⟩
                  have hU0 : 0 < U := by rw [← hU]; exact Nat.pow_pos (by omega)
                  have hU1 : U ≤ 10000 := by rw [← hU]; exact Nat.pow_le_pow_right (by omega) h8
                  rw [hU] at HF
                  rw [hU]
                  have hU2 : ¬ U = 0 := by omega
                  have hdl : F * 256 / U ≤ F * 256 := Nat.div_le_self _ _
                  obtain ⟨Q, hQn⟩ : ∃ Q, F * 256 / U = Q := ⟨_, rfl⟩
                  have hQl : Q ≤ F * 256 := by rw [← hQn]; exact hdl
                  have hQ : (F : Int) * 256 / U = (Q : Int) := by rw [← hQn]; simp
                  have hww : IntKind.i64.wrap ((V : Int) * 256 + IntKind.i64.wrap ((F : Int) * 256 / U)) = (V : Int) * 256 + (F : Int) * 256 / U := by rw [hQ, IntWalk.i64_in (Q : Int) (by omega), IntWalk.i64_in ((V : Int) * 256 + Q) (by omega)]
                  have hdv : Int.tdiv ((F : Int) * 256) U = ((F * 256 / U : Nat) : Int) := by rw [show ((F : Int) * 256) = ((F * 256 : Nat) : Int) by omega]; rfl
                  have e1 : ((src.length : Int) == ((i : Int) + 1)) = false := by simp; omega
                  have e2 : ¬ (4 : Int) < (src.length : Int) - (i + 1) := by omega
                  clear hU
                  go_upto_region 20 with fail
                  go_quiet (fail)
                  (try go_wp2_with fail)
                  exact bodyPost_ret (v := .tuple #[.int .i64 src.length, .int .i64 ((V * 256 + F * 256 / U : Nat) : Int), .bool true]) (by simp [results, Tryz.results85, go_sem, hdv]; exact hQ.symm) rfl ⟨_, rfl, by have := NumRes.yes HF.out; rw [show a + (i - a + 1 + (src.length - (i + 1))) = src.length by omega] at this; exact this, (by repeat (first | (with_reducible exact Below.refl _ _) | (with_reducible assumption) | ((with_reducible refine Below.alloc ?_ ?_ _); rotate_left; (first | omega | (simp <;> omega))) | ((with_reducible refine Below.setCell ?_ ?_ _); rotate_left; (first | omega | (simp <;> omega))) | (with_reducible refine below_drewN ?_ _) | (with_reducible refine Below.drew ?_) | ((with_reducible refine Below.step (by assumption) ?_ ?_); rotate_left; (first | omega | (simp <;> omega)))))⟩
          · have HF : Hid (numTok (src.drop a) = some (i - a, V * 256)) := Lib.hid (by have := numTok_int HSP.out h4 (by rw [HB.out]; intro e; injection e with e; subst e; exact h46 rfl); rw [HV.out] at this; exact this)
            have h46' : ((b.toNat : Int) != 46) = true := by simp; omega
            go_wp2_with (first | (go_at_call 84; refine (HQ.out _).mono ?_; rintro e w' ⟨rfl, rfl⟩) | fail)
            exact bodyPost_ret (v := .tuple #[.int .i64 i, .int .i64 ((V * 256 : Nat) : Int), .bool true]) (by simp [results, Tryz.results85, go_sem]) rfl ⟨_, rfl, by have := NumRes.yes HF.out; rw [show a + (i - a) = i by omega] at this; exact this, (by repeat (first | (with_reducible exact Below.refl _ _) | (with_reducible assumption) | ((with_reducible refine Below.alloc ?_ ?_ _); rotate_left; (first | omega | (simp <;> omega))) | ((with_reducible refine Below.setCell ?_ ?_ _); rotate_left; (first | omega | (simp <;> omega))) | (with_reducible refine below_drewN ?_ _) | (with_reducible refine Below.drew ?_) | ((with_reducible refine Below.step (by assumption) ?_ ?_); rotate_left; (first | omega | (simp <;> omega)))))⟩
    · obtain rfl : i = src.length := by omega
      have HSP := Lib.hid (HDG.out.span_end (by rw [HAT.out]; exact List.getElem?_eq_none (Nat.le_refl _)))
      by_cases h4 : 4 < src.length - a
      · have h5b : (4 : Int) < (src.length : Int) - a := by omega
        have HF : Hid (numTok (src.drop a) = none) := Lib.hid (numTok_big (by rw [HSP.out]; exact h4))
        go_wp2_with fail
        exact bodyPost_ret (v := .tuple #[.int .i64 src.length, .int .i64 0, .bool false]) (by simp [results, Tryz.results85, go_sem]) rfl ⟨_, rfl, NumRes.no HF.out hai hil, (by repeat (first | (with_reducible exact Below.refl _ _) | (with_reducible assumption) | ((with_reducible refine Below.alloc ?_ ?_ _); rotate_left; (first | omega | (simp <;> omega))) | ((with_reducible refine Below.setCell ?_ ?_ _); rotate_left; (first | omega | (simp <;> omega))) | (with_reducible refine below_drewN ?_ _) | (with_reducible refine Below.drew ?_) | ((with_reducible refine Below.step (by assumption) ?_ ?_); rotate_left; (first | omega | (simp <;> omega)))))⟩
      · have h5b : ¬ (4 : Int) < (src.length : Int) - a := by omega
        have HF : Hid (numTok (src.drop a) = some (src.length - a, V * 256)) := Lib.hid (by have := numTok_int HSP.out h4 (by rw [HAT.out, List.getElem?_eq_none (Nat.le_refl _)]; simp); rw [HV.out] at this; exact this)
        have hne : ((src.length : Int) == src.length) = true := by simp
        go_wp2_with fail
        exact bodyPost_ret (v := .tuple #[.int .i64 src.length, .int .i64 ((V * 256 : Nat) : Int), .bool true]) (by simp [results, Tryz.results85, go_sem]) rfl ⟨_, rfl, by have := NumRes.yes HF.out; rw [show a + (src.length - a) = src.length by omega] at this; exact this, (by repeat (first | (with_reducible exact Below.refl _ _) | (with_reducible assumption) | ((with_reducible refine Below.alloc ?_ ?_ _); rotate_left; (first | omega | (simp <;> omega))) | ((with_reducible refine Below.setCell ?_ ?_ _); rotate_left; (first | omega | (simp <;> omega))) | (with_reducible refine below_drewN ?_ _) | (with_reducible refine Below.drew ?_) | ((with_reducible refine Below.step (by assumption) ?_ ?_); rotate_left; (first | omega | (simp <;> omega)))))⟩
end Go.Proofs.YtnlbojckobgjpaaGreatDoor
