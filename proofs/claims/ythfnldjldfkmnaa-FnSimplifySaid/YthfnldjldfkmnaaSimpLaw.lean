/- FnSimplify: a simplified deep list differs by at most the tolerance. -/
import Derived.Test.YthfnldjldfkmnaaFragD
import Derived.Test.YthfnldjldfkmnaaDeepOfI
import Derived.Test.YthfnldjldfkmnaaBytes
namespace Go.Proofs.Ythfnldjldfkmnaa
open Go.RowKit
set_option linter.unusedVariables false
set_option maxRecDepth 20000
set_option maxHeartbeats 8000000 in
theorem L_FnSimplify : BytesLaw 9 := by
  intro A c l w h
  have HR := Lib.hid h
  have hlm := h.len
  unfold maxLen at hlm
  clear h
  rcases Nat.lt_or_ge 1048576 l.length with hbig | hsm
  · have hb' : (1048576 : Int) < (l.length : Int) := by omega
    go_enter Try.func9, Try.ntmps9
    go_wp2
    go_ret
    exact ⟨rfl, (by repeat (first | (with_reducible exact Below.refl _ _) | (with_reducible assumption) | ((with_reducible refine Below.alloc ?_ ?_ _); rotate_left; (first | omega | (simp <;> omega))) | ((with_reducible refine Below.setCell ?_ ?_ _); rotate_left; (first | omega | (simp <;> omega))) | (with_reducible refine below_drewN ?_ _) | (with_reducible refine Below.drew ?_) | ((with_reducible refine Below.step (by assumption) ?_ ?_); rotate_left; (first | omega | (simp <;> omega)))))⟩
  have hb' : ¬ (1048576 : Int) < (l.length : Int) := by omega
  go_enter Try.func9, Try.ntmps9
  go_wp2_with fail
  refine (S_makeFragments _ hsm HR.out).mono ?_
  rintro e w1 ⟨⟨fl, b, d, rfl, h5, hor, hrg, hbw, how⟩, hB1⟩
  have hz1 := hB1.size
  have HF := Lib.hid how.rs
  have HB1 := Lib.hid hB1
  clear hor hrg how hB1
  go_wp2_with fail
  refine (I_DeepOf _ (by omega) HF.out).mono ?_
  rintro e w2 ⟨P, pc, rfl, po, pge, hb2⟩
  have hz2 := hb2.size
  have hdv := deepF_valid fl
  have hdl := deepF_len fl
  generalize deepF fl = D at *
  have HP := Lib.hid po.rs
  have HB2 := Lib.hid (Below.trans HB1.out (hb2.mono hz1))
  clear po pge hb2
  go_wp2_with fail
  refine (S_makeNum (n := 3) _ hsm (by omega) (RS.step HB2.out HR.out)).mono ?_
  rintro e w3 ⟨t, rfl, t0, t1, hb3⟩
  have hz3 := hb3.size
  have HP3 := Lib.hid (RS.step hb3 HP.out)
  have HB3 := Lib.hid (Below.trans HB2.out (hb3.mono (by omega)))
  clear hb3
  go_wp2_with fail
  refine (I_SimplifyDeep _ HP3.out).mono ?_
  rintro e w4 ⟨Q, qc, rfl, qo, qge, hb4⟩
  have hz4 := hb4.size
  have HSV := Lib.hid (valid_sub (simpF_sub D t) hdv)
  have hsl := (simpF_sub D t).length_le
  have HT : Hid (∀ z, (0 ≤ transF (simpF D t) z - transF D z ∧ transF (simpF D t) z - transF D z ≤ t) ∧ (0 ≤ transF D z ∧ transF D z ≤ 65536)) := fun z => ⟨simp_trans hdv ⟨t0, by omega⟩, trans_rng hdv z⟩
  generalize simpF D t = S at *
  have HQ := Lib.hid qo.rs
  have HP4 := Lib.hid (RS.step hb4 HP3.out)
  have HB4 := Lib.hid (Below.trans HB3.out (hb4.mono (by omega)))
  clear qo qge hb4 hdv
  go_wp2_with fail
  go_loopw [6, 7] (fun z _ wr => ∃ k : Nat, z = .int .i64 k ∧ 40 ≤ k ∧ k ≤ 70 ∧ Below w4.heap.size w4 wr) (fun z _ _ => 70 - (intOf z).toNat)
  case atStart => exact ⟨40, rfl, Nat.le_refl _, by omega, Below.refl _ _⟩
  case round =>
    obtain ⟨k, rfl, k1, k2, hb⟩ := hrel
    have hz := hb.size
    have HB := Lib.hid hb
    clear hb
    by_cases hlt : k < 70
    · obtain ⟨⟨o1, o2⟩, o3, o4⟩ := HT.out (k : Int)
      have i1 : (k : Int) < 70 := by omega
      have y0' : IntKind.i64.wrap ((k : Int) + 1) = (k : Int) + 1 := IntWalk.i64_in _ (by omega)
      go_wp2_with fail
      refine (I_Transmittance _ (RS.step HB.out HQ.out)).mono ?_
      rintro e w5 ⟨rfl, hb5⟩
      have HB5 := Lib.hid (Below.trans HB.out (hb5.mono hz))
      have hz5 := hb5.size
      clear hb5
      go_wp2_with fail
      refine (I_Transmittance _ (RS.step HB5.out HP4.out)).mono ?_
      rintro e w6 ⟨rfl, hb6⟩
      have HB6 := Lib.hid (Below.trans HB5.out (hb6.mono (by omega)))
      clear hb6
      generalize transF S k = x at *
      generalize transF D k = y at *
      have y1' : IntKind.i64.wrap (x - y) = x - y := IntWalk.i64_in _ (by omega)
      have n1 : ¬ x - y < 0 := by omega
      have n2 : ¬ t < x - y := by omega
      go_wp2_with fail
      go_roundw
      case rel => exact ⟨k + 1, by go_num, by omega, by omega, HB6.out⟩
      case measure => simp [intOf]; omega
    · obtain rfl : k = 70 := by omega
      have i1 : (S.length : Int) ≤ D.length := by omega
      go_wp2_with fail
      refine (I_IsValidDeep _ (RS.step HB.out HQ.out)).mono ?_
      rintro e w5 ⟨rfl, hb5⟩
      have hv := HSV.out
      go_wp2_with fail
      go_ret
      exact ⟨rfl, Below.trans HB4.out (Below.trans HB.out (hb5.mono hz) |>.mono (by omega))⟩
set_option maxRecDepth 100000 in
theorem FnSimplify_walk : LawWalk 9 [35] := bytes_walk L_FnSimplify
end Go.Proofs.Ythfnldjldfkmnaa
