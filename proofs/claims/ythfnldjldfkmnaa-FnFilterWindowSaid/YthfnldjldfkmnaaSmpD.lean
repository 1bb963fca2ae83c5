/- Drawn samples. -/
import Derived.Test.YthfnldjldfkmnaaDraws
import Derived.Test.YthfnldjldfkmnaaDeepP
import Derived.Test.YthfnldjldfkmnaaDivs
import Derived.Test.YthfnldjldfkmnaaFilterW
import Derived.Test.YthfnldjldfkmnaaInsP
import Derived.Test.YthfnldjldfkmnaaApp
namespace Go.Proofs.Ythfnldjldfkmnaa
open Go.RowKit
set_option linter.unusedVariables false
set_option maxRecDepth 100000
theorem T.infoSample : (Try.prog.info? 51).map (fun i => (i.zero, i.size, i.bytes)) = some (some (.agg #[.int .i64 0, .int .i64 0, .int .i64 0, .int .i64 0, .int .i64 0]), 5, 40) := by kernel_rfl
set_option maxHeartbeats 2000000 in
theorem S_hashRange {b o c : Nat} {x1 x2 x3 x4 m : Int} (w : World) (h : RS w 1 (some ⟨b, o, none⟩) 4 c (ints [x1, x2, x3, x4])) (hm : 1 ≤ m ∧ m ≤ 1000) :
    Calls Try.prog 182 #[.slice (some ⟨b, o, none⟩) 4 c, .int .i64 m] w fun e w' => ∃ x : Int, e = .returned (.int .i64 x) ∧ 0 ≤ x ∧ x ≤ m - 1 ∧ w = w' := by
  obtain ⟨m1, m2⟩ := hm
  have HR := Lib.hid h
  have hh := hashF_rng [x1, x2, x3, x4]
  clear h
  have n1 : ¬ m < 1 := by omega
  have n2 : ¬ m = 0 := by omega
  go_enter Try.func182, Try.ntmps182
  go_wp2_with fail
  refine (S_HashInts (l := [x1, x2, x3, x4]) _ rfl HR.out).mono ?_
  rintro e w1 ⟨rfl, rfl⟩
  generalize hashF [x1, x2, x3, x4] = H at *
  obtain ⟨h0, h1⟩ := hh
  have r0 := Int.emod_nonneg H (show m ≠ 0 by omega)
  have r1 := Int.emod_lt_of_pos H (show 0 < m by omega)
  have e1 : Int.tmod H m = H % m := Int.tmod_eq_emod_of_nonneg h0
  have y1' : IntKind.i64.wrap (H % m) = H % m := IntWalk.i64_in _ (by omega)
  go_wp2
  go_ret
  exact ⟨_, rfl, r0, by omega, rfl⟩
/-- Samples of a pixel. -/
def inSmp (a b : Nat) (x : EFragment) : Prop := (0 ≤ x.1 ∧ x.1 ≤ a * 16 - 1) ∧ 0 ≤ x.2.1 ∧ x.2.1 ≤ b * 16 - 1
set_option maxHeartbeats 16000000 in
theorem S_pixelSamples {a b : Nat} {x y u v : Int} {e : Bool} {i j : Int} (w : World) (hc : validCam a b x y u v = true) (hi : 0 ≤ i ∧ i ≤ a - 1) (hj : 0 ≤ j ∧ j ≤ b - 1) :
    Calls Try.prog 163 #[vCamera a b x y e u v, .int .i64 i, .int .i64 j, .int .i64 2] w fun r w' => ∃ (l : List EFragment) (B d : Nat), r = .returned (.slice (some ⟨B, 0, none⟩) 4 d) ∧ l.length = 4 ∧ (∀ x, x ∈ l → inSmp a b x) ∧ RS w' 5 (some ⟨B, 0, none⟩) 4 d (rFragment l) ∧ w.heap.size ≤ B ∧ Below w.heap.size w w' := by
  obtain ⟨⟨a1, a2⟩, ⟨b1, b2⟩, _⟩ := validCam_true hc
  have hi1 := inB_mk hi.1 hi.2
  have hj1 := inB_mk hj.1 hj.2
  obtain ⟨i0, i9⟩ := hi
  obtain ⟨j0, j9⟩ := hj
  go_enter Try.func163, Try.ntmps163
  go_wp2_with fail
  refine (S_IsValidCamera _).mono ?_
  rintro e1 w1 ⟨rfl, hb1⟩
  have hz1 := hb1.size
  (try simp at hz1)
  obtain ⟨cc1, ff1⟩ := bcell (hb1.mono (show w.heap.size + 2 ≤ _ by first | omega | (simp <;> omega)))
  have z10 : w.heap.size < w1.heap.size := by omega
  have z11 : w.heap.size + 1 < w1.heap.size := by omega
  have hB1 : Below w.heap.size w w1 := (by repeat (first | (with_reducible exact Below.refl _ _) | (with_reducible assumption) | ((with_reducible refine Below.alloc ?_ ?_ _); rotate_left; (first | omega | (simp <;> omega))) | ((with_reducible refine Below.setCell ?_ ?_ _); rotate_left; (first | omega | (simp <;> omega))) | (with_reducible refine below_drewN ?_ _) | (with_reducible refine Below.drew ?_) | ((with_reducible refine Below.step (by assumption) ?_ ?_); rotate_left; (first | omega | (simp <;> omega)))))
  have HB1 := Lib.hid hB1
  clear hB1
  have HG0 : Hid (Grow w1 (w.heap.size + 1) 51 5 (some ⟨w.heap.size + 1, 0, none⟩) 0 0 (rFragment [])) := Grow.step hb1 (Grow.lit_at (cs := #[]) (n := 0) (by simp) rfl (by simp) (Nat.zero_le _))
  clear hb1
  go_wp2_with (first | (go_at_call 117; refine (S_in _ _ _ _).mono ?_; rintro e w' ⟨rfl, rfl⟩) | fail)
  clear hi1 hj1 cc1 ff1 hc
  go_loopw [9, 11, 12, 13, 14] (fun t r _ _ _ wr => ∃ (rn : Nat) (l : List EFragment) (Q : Option Addr) (d : Nat), rn ≤ 2 ∧ r = .int .i64 rn ∧ t = .slice Q (rn * 2) d ∧ l.length = rn * 2 ∧ (∀ x, x ∈ l → inSmp a b x) ∧ Grow wr (w.heap.size + 1) 51 5 Q (rn * 2) d (rFragment l) ∧ Below (w.heap.size + 1) w1 wr) (fun _ r _ _ _ _ => 2 - (intOf r).toNat)
  case atStart => exact ⟨0, [], _, _, Nat.zero_le _, rfl, rfl, rfl, fun x hx => absurd hx (by simp), HG0.out, Below.refl _ _⟩
  case round =>
    obtain ⟨rn, l, Q, d, hr, rfl, rfl, hl, hin, hg, hb⟩ := hrel
    have hz := hb.size
    have HGr := Lib.hid hg
    have HB := Lib.hid hb
    have HIN := Lib.hid hin
    have HL := Lib.hid hl
    have y0' : IntKind.i64.wrap ((rn : Int) + 1) = (rn : Int) + 1 := IntWalk.i64_in _ (by omega)
    clear hg hb hin hl
    by_cases hlt : rn < 2
    · have h1 : (rn : Int) < 2 := by omega
      have HREL : Hid (rn + 1 ≤ 2) := hlt
      go_wp2_with fail
      go_loopw [9, 12, 13, 14] (fun t q _ _ wr => ∃ (cn : Nat) (l : List EFragment) (Q : Option Addr) (d : Nat), cn ≤ 2 ∧ q = .int .i64 cn ∧ t = .slice Q (rn * 2 + cn) d ∧ l.length = rn * 2 + cn ∧ (∀ x, x ∈ l → inSmp a b x) ∧ Grow wr (w.heap.size + 1) 51 5 Q (rn * 2 + cn) d (rFragment l) ∧ Below (w.heap.size + 1) w1 wr) (fun _ q _ _ _ => 2 - (intOf q).toNat)
      case atStart => exact ⟨0, l, _, _, Nat.zero_le _, rfl, rfl, HL.out, HIN.out, HGr.out, HB.out⟩
      case round =>
        obtain ⟨cn, l2, Q2, d2, hc2, rfl, rfl, hl2, hin2, hg2, hb2⟩ := hrel
        have hz2 := hb2.size
        have HGr2 := Lib.hid hg2
        have HB2 := Lib.hid hb2
        have HIN2 := Lib.hid hin2
        have HL2 := Lib.hid hl2
        have y1' : IntKind.i64.wrap ((cn : Int) + 1) = (cn : Int) + 1 := IntWalk.i64_in _ (by omega)
        clear hg2 hb2 hin2 hl2
        by_cases hlt2 : cn < 2
        · have h2 : (cn : Int) < 2 := by omega
          have HREL2 : Hid (cn + 1 ≤ 2) := hlt2
          obtain ⟨N, hN⟩ : ∃ N, rn * 2 + cn = N := ⟨_, rfl⟩
          have hN3 : N ≤ 3 := by omega
          have HN1 : Hid (rn * 2 + (cn + 1) = N + 1) := by show _ = _; omega
          rw [hN] at HGr2 HL2 ⊢
          clear hN
          go_wp2_with fail
          refine (S_hashRange (m := 8) _ (Grow.rs (base := 0) (n := 4) (c := 4) (by repeat (first | (with_reducible refine Grow.drewN ?_ _) | (with_reducible refine Grow.drew ?_) | (refine Grow.lit_at (by simp) (by rfl) (Nat.zero_le _) (by unfold maxLen; omega))))) (by omega)).mono ?_
          rintro e1 w3 ⟨x1, rfl, p1, q1, rfl⟩
          go_wp2_with fail
          refine (S_hashRange (m := 8) _ (Grow.rs (base := 0) (n := 4) (c := 4) (by repeat (first | (with_reducible refine Grow.drewN ?_ _) | (with_reducible refine Grow.drew ?_) | (refine Grow.lit_at (by simp) (by rfl) (Nat.zero_le _) (by unfold maxLen; omega))))) (by omega)).mono ?_
          rintro e1 w4 ⟨x2, rfl, p2, q2, rfl⟩
          go_wp2_with fail
          refine (S_hashRange (m := 16) _ (Grow.rs (base := 0) (n := 4) (c := 4) (by repeat (first | (with_reducible refine Grow.drewN ?_ _) | (with_reducible refine Grow.drew ?_) | (refine Grow.lit_at (by simp) (by rfl) (Nat.zero_le _) (by unfold maxLen; omega))))) (by omega)).mono ?_
          rintro e1 w5 ⟨x3, rfl, p3, q3, rfl⟩
          go_wp2_with fail
          refine (S_hashRange (m := 33) _ (Grow.rs (base := 0) (n := 4) (c := 4) (by repeat (first | (with_reducible refine Grow.drewN ?_ _) | (with_reducible refine Grow.drew ?_) | (refine Grow.lit_at (by simp) (by rfl) (Nat.zero_le _) (by unfold maxLen; omega))))) (by omega)).mono ?_
          rintro e1 w6 ⟨x4, rfl, p4, q4, rfl⟩
          go_wp2_with fail
          refine (S_hashRange (m := 33) _ (Grow.rs (base := 0) (n := 4) (c := 4) (by repeat (first | (with_reducible refine Grow.drewN ?_ _) | (with_reducible refine Grow.drew ?_) | (refine Grow.lit_at (by simp) (by rfl) (Nat.zero_le _) (by unfold maxLen; omega))))) (by omega)).mono ?_
          rintro e1 w7 ⟨x5, rfl, p5, q5, rfl⟩
          go_wp2_with (first | (at_builtin; refine wpList_app (by rfl) _ _ 201 (by rfl) (w.heap.size + 1) 51 (.agg #[.int .i64 0, .int .i64 0, .int .i64 0, .int .i64 0, .int .i64 0]) 5 40 Try.underlying201 T.infoSample rfl (by decide) (xs := rFragment l2) (by rfl) ?_ (ys := rFragment [(i * 16 + (cn : Int) * 8 + x1, j * 16 + (rn : Int) * 8 + x2, x3, x4 - 16, x5 - 16)]) (by rfl) ?_ (rFragment_one _) ?_ ?_ ?_ ?_; (exact (by repeat (first | (with_reducible exact HGr2.out) | (with_reducible refine Grow.alloc ?_ _) | (with_reducible refine Grow.drewN ?_ _) | (with_reducible refine Grow.drew ?_) | ((with_reducible refine Grow.far ?_ ?_ _); rotate_left; (first | omega | (simp <;> omega))) | (with_reducible refine Grow.step (by assumption) ?_)))); (exact (Grow.rs (base := 0) (n := 1) (c := 1) (by repeat (first | (with_reducible refine Grow.drewN ?_ _) | (with_reducible refine Grow.drew ?_) | (refine Grow.lit_at (by simp) (by rfl) (Nat.zero_le _) (by unfold maxLen; omega)))))); (unfold maxLen; omega); (omega); (first | omega | (simp <;> omega)); rintro A' c' w2 gA; have HGA := Lib.hid gA.1; have hBA : Below (w.heap.size + 1) w1 w2 := Below.trans (by repeat (first | (with_reducible exact Below.refl _ _) | (with_reducible exact HB2.out) | (with_reducible assumption) | ((with_reducible refine Below.alloc ?_ ?_ _); rotate_left; (first | omega | (simp <;> omega))) | ((with_reducible refine Below.setCell ?_ ?_ _); rotate_left; (first | omega | (simp <;> omega))) | (with_reducible refine below_drewN ?_ _) | (with_reducible refine Below.drew ?_) | ((with_reducible refine Below.step (by assumption) ?_ ?_); rotate_left; (first | omega | (simp <;> omega))))) gA.2.1; have HBA := Lib.hid hBA; clear gA hBA) | fail)
          go_roundw
          case rel =>
            refine ⟨cn + 1, l2 ++ [(i * 16 + (cn : Int) * 8 + x1, j * 16 + (rn : Int) * 8 + x2, x3, x4 - 16, x5 - 16)], _, _, HREL2.out, by go_num, by rw [HN1.out], by rw [List.length_append, HL2.out, HN1.out]; rfl, fun z hz => ?_, by rw [HN1.out, rFragment_app]; exact HGA.out, HBA.out⟩
            rcases List.mem_append.1 hz with hz | hz
            · exact HIN2.out z hz
            · simp only [List.mem_cons, List.not_mem_nil, or_false] at hz
              subst hz
              exact ⟨⟨by show 0 ≤ i * 16 + (cn : Int) * 8 + x1; omega, by show i * 16 + (cn : Int) * 8 + x1 ≤ _; omega⟩, by show 0 ≤ j * 16 + (rn : Int) * 8 + x2; omega, by show j * 16 + (rn : Int) * 8 + x2 ≤ _; omega⟩
          case measure => simp [intOf]; omega
        · obtain rfl : cn = 2 := by omega
          have HN1 : Hid ((rn + 1) * 2 = rn * 2 + 2) := by show _ = _; omega
          go_wp2_with fail
          go_roundw
          case rel => exact ⟨rn + 1, l2, Q2, d2, HREL.out, by go_num, by rw [HN1.out], by rw [HN1.out]; exact HL2.out, HIN2.out, by rw [HN1.out]; exact HGr2.out, HB2.out⟩
          case measure => simp [intOf]; omega
    · obtain rfl : rn = 2 := by omega
      obtain ⟨B, ds, rfl, hBg, ho, hnc, hcm⟩ := Grow.parts HGr.out (by omega)
      go_wp2_with fail
      go_ret
      exact ⟨l, B, d, rfl, HL.out, HIN.out, HGr.out.rs, by omega, HB1.out.trans (HB.out.mono (by omega))⟩
end Go.Proofs.Ythfnldjldfkmnaa
