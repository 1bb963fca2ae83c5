/- Adding a sample in place: the reference. -/
import Derived.Test.YthfnldjldfkmnaaAddP
import Derived.BigQuiet
import Derived.Deep.QuietTactic
import Derived.StillTailTactics
import Derived.Deep.DeepCutAuto
namespace Go.Proofs.Ythfnldjldfkmnaa
open Go.RowKit
set_option linter.unusedVariables false
set_option maxRecDepth 100000
set_option maxHeartbeats 8000000 in
theorem S_add {a b : Nat} {k r x y tt u v color : Int} {g1 g2 k1 k2 : Nat} {s t : List Int} {d1 d2 : List Value} (w : World) (ha : 1 ≤ a ∧ a ≤ 12) (hb : 1 ≤ b ∧ b ≤ 12) (hs : s.length = a * b) (ht : t.length = a * b)
    (hv : ∀ n (h1 : n < s.length) (h2 : n < t.length), (0 ≤ t[n] ∧ t[n] ≤ 1000000000) ∧ 0 ≤ s[n] ∧ s[n] ≤ 256 * t[n]) (hc : 0 ≤ color ∧ color ≤ 256)
    (h1 : Own w g1 3 (ints s ++ d1)) (h2 : Own w g2 3 (ints t ++ d2)) (hne : g1 ≠ g2) (hk1 : s.length ≤ k1 ∧ k1 ≤ maxLen) (hk2 : t.length ≤ k2 ∧ k2 ≤ maxLen) :
    Calls Try.prog 119 #[vAccum a b (.slice (some ⟨g1, 0, none⟩) s.length k1) (.slice (some ⟨g2, 0, none⟩) t.length k2), vFilter k r, vSample x y tt u v, .int .i64 color] w fun e w' =>
      e = .returned (.bool (belowTo (wgt a k r x y) t t.length)) ∧ Own w' g1 3 (ints (sumsTo (wgt a k r x y) color s s.length) ++ d1) ∧ Own w' g2 3 (ints (wtsTo (wgt a k r x y) t t.length) ++ d2) ∧ Only w.heap.size [g1, g2] w w' := by
  obtain ⟨a1, a2⟩ := ha
  obtain ⟨b1, b2⟩ := hb
  obtain ⟨c1, c2⟩ := hc
  obtain ⟨k1a, k1b⟩ := hk1
  obtain ⟨k2a, k2b⟩ := hk2
  unfold maxLen at k1b k2b
  have hab : a * b ≤ 12 * 12 := Nat.mul_le_mul a2 b2
  have HS := Lib.hid hs
  have HT := Lib.hid ht
  have HV := Lib.hid hv
  have hl1 := h1.lt
  have hl2 := h2.lt
  have hs144 : s.length ≤ 144 := by omega
  have ht144 : t.length ≤ 144 := by omega
  clear hs ht hv hab
  generalize hG : wgt a k r x y = G
  have HGR : Hid (∀ i j n : Nat, i < a → j * a + i = n → weightF k r i j x y = G n ∧ 0 ≤ G n ∧ G n ≤ 6400) := fun i j n hi hn => by rw [← hG]; exact ⟨(wgt_at hi hn).symm, wgt_rng a k r x y n⟩
  clear hG
  have HO1 : Hid (Own (((w.alloc (.cells #[.int .i64 a, .int .i64 b, .slice (some ⟨g1, 0, none⟩) s.length k1, .slice (some ⟨g2, 0, none⟩) t.length k2] 61)).alloc (.cells #[.int .i64 k, .int .i64 r] 48)).alloc (.cells #[.int .i64 x, .int .i64 y, .int .i64 tt, .int .i64 u, .int .i64 v] 51)) g1 3 (ints (sumsTo G color s 0) ++ d1)) := Own.alloc (Own.alloc (Own.alloc h1 _) _) _
  have HO2 : Hid (Own (((w.alloc (.cells #[.int .i64 a, .int .i64 b, .slice (some ⟨g1, 0, none⟩) s.length k1, .slice (some ⟨g2, 0, none⟩) t.length k2] 61)).alloc (.cells #[.int .i64 k, .int .i64 r] 48)).alloc (.cells #[.int .i64 x, .int .i64 y, .int .i64 tt, .int .i64 u, .int .i64 v] 51)) g2 3 (ints (wtsTo G t 0) ++ d2)) := Own.alloc (Own.alloc (Own.alloc h2 _) _) _
  have HX0 : Hid (Box (((w.alloc (.cells #[.int .i64 a, .int .i64 b, .slice (some ⟨g1, 0, none⟩) s.length k1, .slice (some ⟨g2, 0, none⟩) t.length k2] 61)).alloc (.cells #[.int .i64 k, .int .i64 r] 48)).alloc (.cells #[.int .i64 x, .int .i64 y, .int .i64 tt, .int .i64 u, .int .i64 v] 51)) w.heap.size [.int .i64 a, .int .i64 b, .slice (some ⟨g1, 0, none⟩) s.length k1, .slice (some ⟨g2, 0, none⟩) t.length k2]) := Box.mk4 (by simp; omega) (by go_simp) (by go_simp) (by go_simp) (by go_simp)
  have HX1 : Hid (Box (((w.alloc (.cells #[.int .i64 a, .int .i64 b, .slice (some ⟨g1, 0, none⟩) s.length k1, .slice (some ⟨g2, 0, none⟩) t.length k2] 61)).alloc (.cells #[.int .i64 k, .int .i64 r] 48)).alloc (.cells #[.int .i64 x, .int .i64 y, .int .i64 tt, .int .i64 u, .int .i64 v] 51)) (w.heap.size + 1) [.int .i64 k, .int .i64 r]) := Box.mk2 (by simp) (by go_simp) (by go_simp)
  have HX2 : Hid (Box (((w.alloc (.cells #[.int .i64 a, .int .i64 b, .slice (some ⟨g1, 0, none⟩) s.length k1, .slice (some ⟨g2, 0, none⟩) t.length k2] 61)).alloc (.cells #[.int .i64 k, .int .i64 r] 48)).alloc (.cells #[.int .i64 x, .int .i64 y, .int .i64 tt, .int .i64 u, .int .i64 v] 51)) (w.heap.size + 1 + 1) [.int .i64 x, .int .i64 y, .int .i64 tt, .int .i64 u, .int .i64 v]) := Box.mk5 (by simp) (by go_simp) (by go_simp) (by go_simp) (by go_simp) (by go_simp)
  have HOO : Hid (Only w.heap.size [g1, g2] w (((w.alloc (.cells #[.int .i64 a, .int .i64 b, .slice (some ⟨g1, 0, none⟩) s.length k1, .slice (some ⟨g2, 0, none⟩) t.length k2] 61)).alloc (.cells #[.int .i64 k, .int .i64 r] 48)).alloc (.cells #[.int .i64 x, .int .i64 y, .int .i64 tt, .int .i64 u, .int .i64 v] 51))) := Only.alloc (Only.alloc (Only.alloc (Only.refl _ _ _) (Nat.le_refl _) _) (by simp) _) (by simp; omega) _
  have hZ0 : (((w.alloc (.cells #[.int .i64 a, .int .i64 b, .slice (some ⟨g1, 0, none⟩) s.length k1, .slice (some ⟨g2, 0, none⟩) t.length k2] 61)).alloc (.cells #[.int .i64 k, .int .i64 r] 48)).alloc (.cells #[.int .i64 x, .int .i64 y, .int .i64 tt, .int .i64 u, .int .i64 v] 51)).heap.size = w.heap.size + 3 := by simp
  clear h1 h2
  go_enter Try.func119, Try.ntmps119
  go_wp2_with fail
  generalize (((w.alloc (.cells #[.int .i64 a, .int .i64 b, .slice (some ⟨g1, 0, none⟩) s.length k1, .slice (some ⟨g2, 0, none⟩) t.length k2] 61)).alloc (.cells #[.int .i64 k, .int .i64 r] 48)).alloc (.cells #[.int .i64 x, .int .i64 y, .int .i64 tt, .int .i64 u, .int .i64 v] 51)) = W0 at *
  go_loopw [9, 10, 11, 12] (fun ok j _ _ wr => ∃ jn : Nat, jn ≤ b ∧ j = .int .i64 jn ∧ ok = .bool (belowTo G t (jn * a)) ∧ Own wr g1 3 (ints (sumsTo G color s (jn * a)) ++ d1) ∧ Own wr g2 3 (ints (wtsTo G t (jn * a)) ++ d2) ∧ Only W0.heap.size [g1, g2] W0 wr) (fun _ j _ _ _ => b - (intOf j).toNat)
  case atStart => exact ⟨0, Nat.zero_le _, rfl, by rw [Nat.zero_mul]; rfl, by rw [Nat.zero_mul]; exact HO1.out, by rw [Nat.zero_mul]; exact HO2.out, Only.refl _ _ _⟩
  case round =>
    obtain ⟨jn, hj, rfl, rfl, o1, o2, hO⟩ := hrel
    have hz := hO.size
    have bx0 := HX0.out.only hO (by omega) (by simp; omega)
    have bx1 := HX1.out.only hO (by omega) (by simp; omega)
    have bx2 := HX2.out.only hO (by omega) (by simp; omega)
    obtain ⟨z0, e00, e01, e02, e03⟩ := bx0.open4
    have P1 := Lib.hid o1
    have P2 := Lib.hid o2
    have HO := Lib.hid hO
    have y0' : IntKind.i64.wrap ((jn : Int) + 1) = (jn : Int) + 1 := IntWalk.i64_in _ (by omega)
    clear o1 o2 hO bx0 bx1 bx2
    by_cases hlt : jn < b
    · have i1 : (jn : Int) < b := by omega
      have hja : jn * a + a ≤ a * b := by rw [← Nat.succ_mul, Nat.mul_comm a b]; exact Nat.mul_le_mul_right _ hlt
      obtain ⟨R, hR⟩ : ∃ R, jn * a = R := ⟨_, rfl⟩
      have hRn : (jn + 1) * a = R + a := by rw [Nat.succ_mul, hR]
      have HRN := Lib.hid hRn
      have HGJ : Hid (∀ i : Nat, i < a → weightF k r i jn x y = G (R + i) ∧ 0 ≤ G (R + i) ∧ G (R + i) ≤ 6400) := fun i hi => HGR.out i jn (R + i) hi (by rw [hR])
      have hrc : (jn : Int) * (a : Int) = (R : Int) := by rw [← hR]; simp
      rw [hR] at P1 P2 hja
      rw [hR]
      have hRs : R + a ≤ s.length := by rw [HS.out]; exact hja
      have hRt : R + a ≤ t.length := by rw [HT.out]; exact hja
      have yR' : IntKind.i64.wrap ((jn : Int) * (a : Int)) = (R : Int) := by rw [hrc]; exact IntWalk.i64_in _ (by omega)
      clear hR hRn hrc hja
      go_wp2_with fail
      obtain ⟨wo, rfl⟩ : ∃ wo, wo = wr := ⟨_, rfl⟩
      go_loopw [9, 11, 12] (fun ok i _ wr => ∃ ic : Nat, ic ≤ a ∧ i = .int .i64 ic ∧ ok = .bool (belowTo G t (R + ic)) ∧ Own wr g1 3 (ints (sumsTo G color s (R + ic)) ++ d1) ∧ Own wr g2 3 (ints (wtsTo G t (R + ic)) ++ d2) ∧ Only W0.heap.size [g1, g2] W0 wr) (fun _ i _ _ => a - (intOf i).toNat)
      case atStart => exact ⟨0, Nat.zero_le _, rfl, rfl, P1.out, P2.out, HO.out⟩
      case round =>
        obtain ⟨ic, hi, rfl, rfl, o1, o2, hO⟩ := hrel
        have hz5 := hO.size
        have bx0 := HX0.out.only hO (by omega) (by simp; omega)
        have bx1 := HX1.out.only hO (by omega) (by simp; omega)
        have bx2 := HX2.out.only hO (by omega) (by simp; omega)
        obtain ⟨z0', f00, f01, f02, f03⟩ := bx0.open4
        obtain ⟨z1', f10, f11⟩ := bx1.open2
        obtain ⟨z2', f20, f21, f22, f23, f24⟩ := bx2.open5
        have Q1 := Lib.hid o1
        have Q2 := Lib.hid o2
        have HO3 := Lib.hid hO
        have HB0 := Lib.hid bx0
        have y1' : IntKind.i64.wrap ((ic : Int) + 1) = (ic : Int) + 1 := IntWalk.i64_in _ (by omega)
        clear o1 o2 hO bx0 bx1 bx2 e00 e01 e02 e03
        by_cases hlt2 : ic < a
        · obtain ⟨w1', w2', w3'⟩ := HGJ.out ic hlt2
          have i2 : (ic : Int) < a := by omega
          obtain ⟨Z, hZ⟩ : ∃ Z, R + ic = Z := ⟨_, rfl⟩
          have hZn : R + (ic + 1) = Z + 1 := by omega
          have hZs : Z < s.length := by omega
          have hZt : Z < t.length := by omega
          have yZ' : IntKind.i64.wrap ((R : Int) + (ic : Int)) = (Z : Int) := by rw [show (R : Int) + (ic : Int) = (Z : Int) by omega]; exact IntWalk.i64_in _ (by omega)
          rw [hZ] at w1' w2' w3' Q1 Q2
          rw [hZ]
          have HZN := Lib.hid hZn
          obtain ⟨⟨t0, t1⟩, s0, s1⟩ := HV.out Z hZs hZt
          have hgc : 0 ≤ G Z * color ∧ G Z * color ≤ 6400 * 256 := ⟨Int.mul_nonneg w2' c1, Int.mul_le_mul w3' c2 c1 (by omega)⟩
          obtain ⟨m0, m1⟩ := hgc
          have HSET1 : Hid ((ints (sumsTo G color s Z)).set Z (.int .i64 (s[Z] + G Z * color)) = ints (sumsTo G color s (Z + 1))) := sumsTo_set hZs
          have HSET2 : Hid ((ints (wtsTo G t Z)).set Z (.int .i64 (t[Z] + G Z)) = ints (wtsTo G t (Z + 1))) := wtsTo_set hZt
          have HBT : Hid (belowTo G t (Z + 1) = (belowTo G t Z && decide (t[Z] + G Z ≤ 1000000000))) := by show _ = _; rw [belowTo_succ, adT, atI, getD_at hZt]
          have hln1 : Z < (ints (sumsTo G color s Z)).length := by simp [pixTo_len]; omega
          have hln2 : Z < (ints (wtsTo G t Z)).length := by simp [pixTo_len]; omega
          have HC1 : Hid (∀ wx, Own wx g1 3 (ints (sumsTo G color s Z) ++ d1) → wx.cell? ⟨g1, Z, none⟩ = some (.int .i64 s[Z])) := fun wx hx => by rw [hx.cell, List.getElem?_append_left hln1, sumsTo_at G color hZs]
          have HC2 : Hid (∀ wx, Own wx g2 3 (ints (wtsTo G t Z) ++ d2) → wx.cell? ⟨g2, Z, none⟩ = some (.int .i64 t[Z])) := fun wx hx => by rw [hx.cell, List.getElem?_append_left hln2, wtsTo_at G hZt]
          have HC3 : Hid (∀ wx, Own wx g2 3 (ints (wtsTo G t (Z + 1)) ++ d2) → wx.cell? ⟨g2, Z, none⟩ = some (.int .i64 (t[Z] + G Z))) := fun wx hx => by rw [hx.cell, List.getElem?_append_left (by simp [pixTo_len]; omega), ← HSET2.out, List.getElem?_set_self hln2]
          have HL1 := Lib.hid hln1
          have HL2 := Lib.hid hln2
          have HREL : Hid (ic + 1 ≤ a) := hlt2
          clear hZ hZn hln1 hln2
          generalize s[Z] = v1 at *
          generalize t[Z] = v2 at *
          generalize G Z = g at *
          have i3 : (0 : Int) ≤ Z := by omega
          have i4 : (Z : Int) < s.length := by omega
          have i5 : (Z : Int) < t.length := by omega
          have y2' : IntKind.i64.wrap (g * color) = g * color := IntWalk.i64_in _ (by omega)
          have y3' : IntKind.i64.wrap (v1 + g * color) = v1 + g * color := IntWalk.i64_in _ (by omega)
          have y4' : IntKind.i64.wrap (v2 + g) = v2 + g := IntWalk.i64_in _ (by omega)
          go_wp2_with fail
          refine (S_FilterWeight _ _ _ _ _ _ _ _ _ _).mono ?_
          rintro e w5 ⟨rfl, hb5⟩
          rw [w1']
          have hz6 := hb5.size
          have o1 := Own.step hb5 Q1.out
          have o2 := Own.step hb5 Q2.out
          have bx0 := Box.step hb5 HB0.out
          obtain ⟨z0'', g00, g01, g02, g03⟩ := bx0.open4
          have x1 := HC1.out _ o1
          have fz1 : w5.frozen? ⟨g1, Z, none⟩ = false := o1.frozen _
          have HO5 : Hid (Only W0.heap.size [g1, g2] W0 w5) := Lib.hid (Only.trans HO3.out (Only.of_below hb5 _) hz5 (fun x hx => hx))
          have R1 := Lib.hid o1
          have R2 := Lib.hid o2
          have HB5 := Lib.hid bx0
          clear hb5 o1 o2 bx0 f00 f01 f02 f03 f10 f11 f20 f21 f22 f23 f24
          go_wp2_with fail
          go_still_tail 23, (by kernel_rfl)
          go_wp2_with fail
          have q1 : Own (w5.setCell ⟨g1, Z, none⟩ (.int .i64 (v1 + g * color))).drew g1 3 (ints (sumsTo G color s (Z + 1)) ++ d1) := by rw [← HSET1.out]; exact (Own.set_left R1.out _ HL1.out _).drew
          have q2 : Own (w5.setCell ⟨g1, Z, none⟩ (.int .i64 (v1 + g * color))).drew g2 3 (ints (wtsTo G t Z) ++ d2) := (Own.far R2.out (fun e => hne e.symm) _).drew
          have q3 : Box (w5.setCell ⟨g1, Z, none⟩ (.int .i64 (v1 + g * color))).drew w.heap.size [.int .i64 a, .int .i64 b, .slice (some ⟨g1, 0, none⟩) s.length k1, .slice (some ⟨g2, 0, none⟩) t.length k2] := Box.only (Only.drew (Only.setCell (B := w5.heap.size) (p := ⟨g1, Z, none⟩) (Only.refl _ [g1] w5) (by simp) _)) HB5.out HB5.out.lt (by simp; omega)
          have q4 : Only W0.heap.size [g1, g2] W0 (w5.setCell ⟨g1, Z, none⟩ (.int .i64 (v1 + g * color))).drew := (Only.setCell (p := ⟨g1, Z, none⟩) HO5.out (by simp) _).drew
          generalize (w5.setCell ⟨g1, Z, none⟩ (.int .i64 (v1 + g * color))).drew = w6 at *
          obtain ⟨z6, h00, h01, h02, h03⟩ := q3.open4
          have x2 := HC2.out _ q2
          have fz2 : w6.frozen? ⟨g2, Z, none⟩ = false := q2.frozen _
          have S1 := Lib.hid q1
          have S2 := Lib.hid q2
          have S3 := Lib.hid q3
          have S4 := Lib.hid q4
          clear q1 q2 q3 q4 g00 g01 g02 g03 x1 fz1
          go_still_tail 21, (by kernel_rfl)
          go_upto_region 11 with fail
          have q1 : Own (w6.setCell ⟨g2, Z, none⟩ (.int .i64 (v2 + g))).drew g1 3 (ints (sumsTo G color s (Z + 1)) ++ d1) := (Own.far S1.out hne _).drew
          have q2 : Own (w6.setCell ⟨g2, Z, none⟩ (.int .i64 (v2 + g))).drew g2 3 (ints (wtsTo G t (Z + 1)) ++ d2) := by rw [← HSET2.out]; exact (Own.set_left S2.out _ HL2.out _).drew
          have q3 : Box (w6.setCell ⟨g2, Z, none⟩ (.int .i64 (v2 + g))).drew w.heap.size [.int .i64 a, .int .i64 b, .slice (some ⟨g1, 0, none⟩) s.length k1, .slice (some ⟨g2, 0, none⟩) t.length k2] := Box.only (Only.drew (Only.setCell (B := w6.heap.size) (p := ⟨g2, Z, none⟩) (Only.refl _ [g2] w6) (by simp) _)) S3.out S3.out.lt (by simp; omega)
          have q4 : Only W0.heap.size [g1, g2] W0 (w6.setCell ⟨g2, Z, none⟩ (.int .i64 (v2 + g))).drew := (Only.setCell (p := ⟨g2, Z, none⟩) S4.out (by simp) _).drew
          generalize (w6.setCell ⟨g2, Z, none⟩ (.int .i64 (v2 + g))).drew = w7 at *
          obtain ⟨z7, j00, j01, j02, j03⟩ := q3.open4
          have x3 := HC3.out _ q2
          have T1 := Lib.hid q1
          have T2 := Lib.hid q2
          have T4 := Lib.hid q4
          clear q1 q2 q3 q4 h00 h01 h02 h03 x2 fz2
          cases hok : belowTo G t Z
          · rw [hok] at HBT
            go_wp2_with fail
            go_roundw
            case rel => exact ⟨ic + 1, HREL.out, by go_num, by rw [HZN.out, HBT.out]; rfl, by rw [HZN.out]; exact T1.out, by rw [HZN.out]; exact T2.out, T4.out⟩
            case measure => simp [intOf]; omega
          · rw [hok] at HBT
            go_wp2_with fail
            go_roundw
            case rel => exact ⟨ic + 1, HREL.out, by go_num, by rw [HZN.out, HBT.out]; simp, by rw [HZN.out]; exact T1.out, by rw [HZN.out]; exact T2.out, T4.out⟩
            case measure => simp [intOf]; omega
        · obtain rfl : ic = a := by omega
          go_wp2_with fail
          go_roundw
          case rel => exact ⟨jn + 1, hlt, by go_num, by rw [HRN.out], by rw [HRN.out]; exact Q1.out, by rw [HRN.out]; exact Q2.out, HO3.out⟩
          case measure => simp [intOf]; omega
    · obtain rfl : jn = b := by omega
      go_wp2_with fail
      go_ret
      refine ⟨ret_bool (by rw [HT.out, Nat.mul_comm a jn]), by rw [HS.out, Nat.mul_comm a jn]; exact P1.out, by rw [HT.out, Nat.mul_comm a jn]; exact P2.out, Only.trans HOO.out HO.out (by omega) (fun x hx => hx)⟩
end Go.Proofs.Ythfnldjldfkmnaa
