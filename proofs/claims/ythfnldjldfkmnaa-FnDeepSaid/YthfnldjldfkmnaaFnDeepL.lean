/- FnDeep: a deep list never gains light with depth, and agrees with compositing. -/
import Derived.Test.YthfnldjldfkmnaaFragD
import Derived.Test.YthfnldjldfkmnaaDeepOfI
import Derived.Test.YthfnldjldfkmnaaBytes
namespace Go.Proofs.Ythfnldjldfkmnaa
open Go.RowKit
set_option linter.unusedVariables false
set_option maxRecDepth 20000
/-- The first k of colour 256. -/
def litTo (l : List EFragment) (k : Nat) : List EFragment := (l.take k).map lit ++ l.drop k
theorem litTo_len (l : List EFragment) (k : Nat) : (litTo l k).length = l.length := by simp [litTo]; omega
theorem litTo_end (l : List EFragment) : litTo l l.length = l.map lit := by simp [litTo]
theorem litTo_cells {l : List EFragment} {k : Nat} (h : k < l.length) : (rFragment (litTo l k)).set (k * 5 + 3) (.int .i64 256) = rFragment (litTo l (k + 1)) := by
  have e1 : litTo l k = (l.take k).map lit ++ ([l[k]] ++ l.drop (k + 1)) := by unfold litTo; rw [List.drop_eq_getElem_cons h]; rfl
  have e2 : litTo l (k + 1) = (l.take k).map lit ++ ([lit l[k]] ++ l.drop (k + 1)) := by unfold litTo; rw [List.take_succ_eq_append_getElem h, List.map_append, List.append_assoc]; rfl
  have hA : (rFragment ((l.take k).map lit)).length = k * 5 := by rw [rFragment_len]; simp; omega
  rw [e1, e2, rFragment_app, rFragment_app, rFragment_app, rFragment_app, List.set_append_right _ _ (by omega), hA, show k * 5 + 3 - k * 5 = 3 by omega]
  rfl
set_option maxHeartbeats 2000000 in
theorem I_Composite {A : Option Addr} {c : Nat} {l : List EFragment} (w : World) (hs : l.length ≤ 1048576) (h : RS w 5 A l.length c (rFragment l)) :
    Calls Try.prog 47 #[.slice A l.length c] w fun e w' => e = .returned (.int .i64 (compF l)) ∧ Below w.heap.size w w' := by
  have HR := Lib.hid h
  clear h
  go_enter Try.func47, Try.ntmps47
  go_wp2_with fail
  go_loopw [3, 4, 6, 7, 10] (fun s v _ _ i wr => ∃ k : Nat, k ≤ l.length ∧ i = .int .i64 k ∧ s = .int .i64 (compTo l k) ∧ v = .int .i64 (wAt l k) ∧ Below w.heap.size w wr) (fun _ _ _ _ i _ => l.length - (intOf i).toNat)
  case atStart => exact ⟨0, Nat.zero_le _, rfl, rfl, rfl, Below.refl _ _⟩
  case round =>
    obtain ⟨k, hk, rfl, rfl, rfl, hb⟩ := hrel
    have hz := hb.size
    have HB2 := Lib.hid hb
    have HQ := Lib.hid (RS.step hb HR.out)
    have y0' : IntKind.i64.wrap ((k : Int) + 1) = (k : Int) + 1 := IntWalk.i64_in _ (by omega)
    have i1 : (0 : Int) ≤ k := by omega
    clear hb
    by_cases hlt : k < l.length
    · obtain ⟨b, o, rfl, hbh, hcell⟩ := HQ.out.open_.2.2 (by omega)
      obtain ⟨q0, q1, q2, q3, q4⟩ := rFragment_at (l := l) hlt
      have d0 : wr.cell? ⟨b, o + k * 5, none⟩ = some (.int .i64 l[k].1) := by rw [hcell _ (by omega), q0]
      have d1 : wr.cell? ⟨b, o + k * 5 + 1, none⟩ = some (.int .i64 l[k].2.1) := by rw [show o + k * 5 + 1 = o + (k * 5 + 1) by omega, hcell _ (by omega), q1]
      have d2 : wr.cell? ⟨b, o + k * 5 + 2, none⟩ = some (.int .i64 l[k].2.2.1) := by rw [show o + k * 5 + 2 = o + (k * 5 + 2) by omega, hcell _ (by omega), q2]
      have d3 : wr.cell? ⟨b, o + k * 5 + 3, none⟩ = some (.int .i64 l[k].2.2.2.1) := by rw [show o + k * 5 + 3 = o + (k * 5 + 3) by omega, hcell _ (by omega), q3]
      have d4 : wr.cell? ⟨b, o + k * 5 + 4, none⟩ = some (.int .i64 l[k].2.2.2.2) := by rw [show o + k * 5 + 4 = o + (k * 5 + 4) by omega, hcell _ (by omega), q4]
      have i2 : (k : Int) < l.length := by omega
      have HREL : Hid (k + 1 ≤ l.length) := hlt
      obtain ⟨v0, v1⟩ := wAt_rng l k
      obtain ⟨s0, s1⟩ := compTo_rng l k
      have HW : Hid (wAt l (k + 1) = wAt l k - Int.tdiv (wAt l k * clampF l[k].2.2.2.2 0 256) 256) := by show _ = _; rw [wAt, wStep, fAt_at hlt]; rfl
      have HS : Hid (compTo l (k + 1) = compTo l k + Int.tdiv (wAt l k * clampF l[k].2.2.2.2 0 256) 256 * clampF l[k].2.2.2.1 0 256) := by show _ = _; rw [compTo, fAt_at hlt]; rfl
      obtain ⟨c0, c1⟩ := clamp_rng l[k].2.2.2.2
      obtain ⟨e0, e1⟩ := clamp_rng l[k].2.2.2.1
      obtain ⟨p0, p1, p2, p3⟩ := wPart v0 v1 c0 c1
      have m0 := Int.mul_nonneg p2 e0
      have m1 : Int.tdiv (wAt l k * clampF l[k].2.2.2.2 0 256) 256 * clampF l[k].2.2.2.1 0 256 ≤ 65536 * 256 := Int.mul_le_mul (by omega) e1 e0 (by omega)
      have s2 : compTo l k ≤ 17592186044416 := by omega
      clear hcell q0 q1 q2 q3 q4 s1
      generalize l[k] = x at *
      generalize wAt l k = V at *
      generalize compTo l k = C at *
      have y1' : IntKind.i64.wrap (V * clampF x.2.2.2.2 0 256) = V * clampF x.2.2.2.2 0 256 := IntWalk.i64_in _ (by omega)
      have y2' : IntKind.i64.wrap (Int.tdiv (V * clampF x.2.2.2.2 0 256) 256) = Int.tdiv (V * clampF x.2.2.2.2 0 256) 256 := IntWalk.i64_in _ (by omega)
      have y3' : IntKind.i64.wrap (V - Int.tdiv (V * clampF x.2.2.2.2 0 256) 256) = V - Int.tdiv (V * clampF x.2.2.2.2 0 256) 256 := IntWalk.i64_in _ (by omega)
      have y4' : IntKind.i64.wrap (Int.tdiv (V * clampF x.2.2.2.2 0 256) 256 * clampF x.2.2.2.1 0 256) = Int.tdiv (V * clampF x.2.2.2.2 0 256) 256 * clampF x.2.2.2.1 0 256 := IntWalk.i64_in _ (by omega)
      have y5' : IntKind.i64.wrap (C + Int.tdiv (V * clampF x.2.2.2.2 0 256) 256 * clampF x.2.2.2.1 0 256) = C + Int.tdiv (V * clampF x.2.2.2.2 0 256) 256 * clampF x.2.2.2.1 0 256 := IntWalk.i64_in _ (by omega)
      go_wp2_with (go_at_call 126; refine (I_Clamp _ _ _ _).mono ?_; rintro e w' ⟨rfl, rfl⟩)
      go_roundw
      case rel => exact ⟨k + 1, HREL.out, by go_num, by rw [HS.out], by rw [HW.out], (by repeat (first | (with_reducible exact Below.refl _ _) | (with_reducible exact HB2.out) | (with_reducible assumption) | ((with_reducible refine Below.alloc ?_ ?_ _); rotate_left; (first | omega | (simp <;> omega))) | ((with_reducible refine Below.setCell ?_ ?_ _); rotate_left; (first | omega | (simp <;> omega))) | (with_reducible refine below_drewN ?_ _) | (with_reducible refine Below.drew ?_) | ((with_reducible refine Below.step (by assumption) ?_ ?_); rotate_left; (first | omega | (simp <;> omega)))))⟩
      case measure => simp [intOf]; omega
    · obtain rfl : k = l.length := by omega
      obtain ⟨s0, s1⟩ := compTo_rng l l.length
      have y1' : IntKind.i64.wrap (Int.tdiv (compTo l l.length) 65536) = Int.tdiv (compTo l l.length) 65536 := IntWalk.i64_in _ (by rw [Int.tdiv_eq_ediv_of_nonneg s0]; omega)
      go_wp2_with fail
      go_ret
      exact ⟨rfl, HB2.out⟩
set_option maxHeartbeats 8000000 in
theorem L_FnDeep : BytesLaw 8 := by
  intro A c l w h
  have HR := Lib.hid h
  have hlm := h.len
  unfold maxLen at hlm
  clear h
  rcases Nat.lt_or_ge 1048576 l.length with hbig | hsm
  · have hb' : (1048576 : Int) < (l.length : Int) := by omega
    go_enter Try.func8, Try.ntmps8
    go_wp2
    go_ret
    exact ⟨rfl, (by repeat (first | (with_reducible exact Below.refl _ _) | (with_reducible assumption) | ((with_reducible refine Below.alloc ?_ ?_ _); rotate_left; (first | omega | (simp <;> omega))) | ((with_reducible refine Below.setCell ?_ ?_ _); rotate_left; (first | omega | (simp <;> omega))) | (with_reducible refine below_drewN ?_ _) | (with_reducible refine Below.drew ?_) | ((with_reducible refine Below.step (by assumption) ?_ ?_); rotate_left; (first | omega | (simp <;> omega)))))⟩
  have hb' : ¬ (1048576 : Int) < (l.length : Int) := by omega
  go_enter Try.func8, Try.ntmps8
  go_wp2_with fail
  refine (S_makeFragments _ hsm HR.out).mono ?_
  rintro e w1 ⟨⟨fl, b, d, rfl, h5, hor, hrg, hbw, how⟩, hB1⟩
  have hz1 := hB1.size
  have hbl := how.lt b (by simp [gOf])
  have hr2 : ∀ x, x ∈ fl → inB x.1 (-1000000) 1000000 = true := fun x hx => by have := hrg x hx; exact inB_mk (by omega) (by omega)
  have hlast := deepF_last hor hr2 (by omega)
  have hfrom := deepF_from fl hrg
  have HOW := Lib.hid how
  have HB1 := Lib.hid hB1
  clear hor hrg how hB1 hr2
  go_wp2_with fail
  refine (I_DeepOf _ (by omega) HOW.out.rs).mono ?_
  rintro e w2 ⟨P, pc, rfl, po, pge, hb2⟩
  have hz2 := hb2.size
  have hdv := deepF_valid fl
  have hdl := deepF_len fl
  generalize deepF fl = D at *
  have HT : Hid (∀ z y : Int, z ≤ y → transF D y ≤ transF D z ∧ transF D z ≤ 65536 ∧ 0 ≤ transF D y) := fun z y hzy => ⟨(trans_falls hdv hzy).1, (trans_falls hdv hzy).2, (trans_rng hdv y).1⟩
  have hw := wAt_rng fl fl.length
  have HLAST : Hid (transF D 69 = wAt fl fl.length) := by show _ = _; rw [trans_all hdv (fun x hx => by have := hfrom x hx; omega), hlast]
  have HC : Hid (compF (fl.map lit) = Int.tdiv (65536 - wAt fl fl.length) 256) := compF_lit fl
  have HDV := Lib.hid hdv
  have HP := Lib.hid po.rs
  have HPG := Lib.hid pge
  have HOW2 := Lib.hid (OwnS.step hb2 HOW.out)
  have HB2 := Lib.hid (Below.trans HB1.out (hb2.mono hz1))
  clear po pge hb2 hdv hfrom hlast
  generalize wAt fl fl.length = V at *
  go_wp2_with fail
  go_loopw [5, 6, 7] (fun la z _ wr => ∃ (k : Nat) (L : Int), z = .int .i64 k ∧ la = .int .i64 L ∧ 40 ≤ k ∧ k ≤ 70 ∧ (∀ y : Int, (k : Int) ≤ y → transF D y ≤ L) ∧ (k = 70 → L = V) ∧ 0 ≤ L ∧ L ≤ 65536 ∧ Below w2.heap.size w2 wr) (fun _ z _ _ => 70 - (intOf z).toNat)
  case atStart => exact ⟨40, 65536, rfl, rfl, Nat.le_refl _, by omega, fun y hy => Int.le_trans (HT.out 40 y hy).1 (HT.out 40 y hy).2.1, fun h => absurd h (by omega), by omega, by omega, Below.refl _ _⟩
  case round =>
    obtain ⟨k, L, rfl, rfl, k1, k2, hall, hend, l0, l1, hb⟩ := hrel
    have hz := hb.size
    have HB := Lib.hid hb
    have HALL := Lib.hid hall
    have HEND := Lib.hid hend
    clear hb hall hend
    by_cases hlt : k < 70
    · have o1 := HALL.out (k : Int) (Int.le_refl _)
      have o2 := HT.out (k : Int) k (Int.le_refl _)
      have HNX : Hid (∀ y : Int, ((k + 1 : Nat) : Int) ≤ y → transF D y ≤ transF D k) := fun y hy => (HT.out (k : Int) y (by omega)).1
      have HNE : Hid (k + 1 = 70 → transF D k = V) := fun h => by rw [show (k : Int) = 69 by omega]; exact HLAST.out
      have i1 : (k : Int) < 70 := by omega
      have y0' : IntKind.i64.wrap ((k : Int) + 1) = (k : Int) + 1 := IntWalk.i64_in _ (by omega)
      go_wp2_with fail
      refine (I_Transmittance _ (RS.step HB.out HP.out)).mono ?_
      rintro e w5 ⟨rfl, hb5⟩
      have HB5 := Lib.hid (Below.trans HB.out (hb5.mono hz))
      clear hb5
      have n1 : ¬ L < transF D k := by omega
      go_wp2_with fail
      go_roundw
      case rel => exact ⟨k + 1, _, by go_num, rfl, by omega, by omega, HNX.out, HNE.out, by omega, by omega, HB5.out⟩
      case measure => simp [intOf]; omega
    · obtain rfl : k = 70 := by omega
      obtain rfl := HEND.out rfl
      obtain ⟨wo, rfl⟩ : ∃ wo, wo = wr := ⟨_, rfl⟩
      have HP3 := Lib.hid (RS.step HB.out HP.out)
      have HOW3 := Lib.hid (OwnS.step HB.out HOW2.out)
      have HB3 := Lib.hid (Below.trans HB2.out (HB.out.mono (by omega)))
      have hPb : ∀ x, x ∈ gOf P → x ≠ b := fun x hx => by have := HPG.out x hx; omega
      have HPB := Lib.hid hPb
      clear hPb
      go_wp2_with fail
      go_loopw [8, 29] (fun _ i wr => ∃ k : Nat, k ≤ fl.length ∧ i = .int .i64 k ∧ OwnS wr 5 (some ⟨b, 0, none⟩) fl.length d 83 (rFragment (litTo fl k)) ∧ Only wo.heap.size [b] wo wr) (fun _ i _ => fl.length - (intOf i).toNat)
      case atStart => exact ⟨0, Nat.zero_le _, rfl, HOW3.out, Only.refl _ _ _⟩
      case round =>
        obtain ⟨k, hk, rfl, how, hO⟩ := hrel
        have hz4 := hO.size
        have HO := Lib.hid hO
        have HOWr := Lib.hid how
        have i1 : (0 : Int) ≤ k := by omega
        have y0' : IntKind.i64.wrap ((k : Int) + 1) = (k : Int) + 1 := IntWalk.i64_in _ (by omega)
        clear hO how
        by_cases hlt2 : k < fl.length
        · obtain ⟨b', ds, he, ho, hnc, hcm⟩ := OwnS.block HOWr.out (by omega)
          injection he with he
          injection he with he1 he2
          subst he1
          have hrl := rFragment_len (litTo fl k)
          rw [litTo_len] at hrl
          have x1 : wr.cell? ⟨b, k * 5 + 3, none⟩ = some ((rFragment (litTo fl k) ++ ds)[k * 5 + 3]'(by rw [List.length_append]; omega)) := by rw [ho.cell, List.getElem?_eq_getElem]
          have f1 : wr.frozen? ⟨b, k * 5 + 3, none⟩ = false := ho.frozen _
          generalize (rFragment (litTo fl k) ++ ds)[k * 5 + 3]'(by rw [List.length_append]; omega) = v at *
          have i2 : (k : Int) < fl.length := by omega
          have HREL : Hid (k + 1 ≤ fl.length) := hlt2
          have hq := Own.set_left ho (k * 5 + 3) (by omega) (.int .i64 256)
          rw [litTo_cells hlt2] at hq
          have HQ : Hid (OwnS (wr.setCell ⟨b, k * 5 + 3, none⟩ (.int .i64 256)) 5 (some ⟨b, 0, none⟩) fl.length d 83 (rFragment (litTo fl (k + 1)))) := ⟨by rw [rFragment_len, litTo_len], hnc, hcm, .inr ⟨b, ds, rfl, hq⟩⟩
          clear ho hq hrl
          go_wp2
          go_roundw
          case rel => exact ⟨k + 1, HREL.out, by go_num, HQ.out, Only.setCell (p := ⟨b, k * 5 + 3, none⟩) HO.out (by simp) _⟩
          case measure => simp [intOf]; omega
        · obtain rfl : k = fl.length := by omega
          have HB4 := Lib.hid (Below.trans HB3.out (HO.out.below HB3.out.size (fun x hx => by simp at hx; omega)))
          have HPr := Lib.hid (RS.only HP3.out HO.out (Nat.le_refl _) (fun _ x hx => by have := HPB.out x hx; simpa using this))
          have HLR : Hid (RS wr 5 (some ⟨b, 0, none⟩) (fl.map lit).length d (rFragment (fl.map lit))) := by
            have := HOWr.out.rs
            rw [litTo_end] at this
            show RS wr 5 (some ⟨b, 0, none⟩) (fl.map lit).length d (rFragment (fl.map lit))
            rwa [List.length_map]
          have hvv := HDV.out
          have hnil : transF [] 0 = 65536 := by decide
          have HCO : Hid (∀ wx, Below wr.heap.size wr wx → Calls Try.prog 47 #[.slice (some ⟨b, 0, none⟩) fl.length d] wx fun e w' => e = .returned (.int .i64 (Int.tdiv (65536 - L) 256)) ∧ Below wx.heap.size wx w') := fun wx hx => by
            have := I_Composite wx (by rw [List.length_map]; omega) (RS.step hx HLR.out)
            rw [HC.out, List.length_map] at this
            exact this
          have y1' : IntKind.i64.wrap (65536 - L) = 65536 - L := IntWalk.i64_in _ (by omega)
          have y2' : IntKind.i64.wrap (Int.tdiv (65536 - L) 256) = Int.tdiv (65536 - L) 256 := IntWalk.i64_in _ (by rw [Int.tdiv_eq_ediv_of_nonneg (by omega)]; omega)
          have e1 : (Int.tdiv (65536 - L) 256 == Int.tdiv (65536 - L) 256) = true := by simp
          go_wp2_with fail
          refine (I_IsValidDeep _ HPr.out).mono ?_
          rintro e w6 ⟨rfl, hb6⟩
          go_wp2_with fail
          refine (I_Transmittance (A := none) (c := 0) (l := []) (d := 0) _ (Grow.rs (base := 0) (Grow.nil _ _ 161 _))).mono ?_
          rintro e w7 ⟨rfl, hb7⟩
          have hb67 := Below.trans hb6 (hb7.mono hb6.size)
          go_wp2_with fail
          refine (HCO.out _ hb67).mono ?_
          rintro e w8 ⟨rfl, hb8⟩
          have HB8 := Lib.hid (Below.trans HB4.out (Below.trans hb67 (hb8.mono hb67.size) |>.mono HB4.out.size))
          clear hb6 hb7 hb67 hb8
          go_wp2_with fail
          go_ret
          exact ⟨rfl, HB8.out⟩
set_option maxRecDepth 100000 in
theorem FnDeep_walk : LawWalk 8 [35] := bytes_walk L_FnDeep
end Go.Proofs.Ythfnldjldfkmnaa
