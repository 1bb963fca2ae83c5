/- MADE BY PROGRAM (gendraw.py). Draws of a camera and of a filter. -/
import Derived.Test.YthpanpedoeghoaaCursor
import Derived.Test.YthpanpedoeghoaaCamera
import Derived.Test.YthpanpedoeghoaaFilter
set_option linter.unusedVariables false
set_option linter.unusedSimpArgs false
set_option linter.unnecessarySimpa false
namespace Go.Proofs.Ythpanpedoeghoaa
open Go.RowKit
set_option linter.unusedVariables false
set_option maxRecDepth 100000
set_option maxHeartbeats 1000000 in
theorem S_once {g c : Nat} {A : Option Addr} {l : List Int} {n : Int} (w : World) (h : Cur 73 w g A c l) (hn : 1 ≤ n ∧ n ≤ 256) :
    Calls Try.prog 29 #[.pointer (some ⟨g, 0, none⟩), .int .i64 n] w fun e w' => ∃ b : Bool, e = .returned (.bool b) ∧ Cur 73 w' g A c l ∧ Only w.heap.size [g] w w' := by
  have HC := Lib.hid h
  clear h
  go_enter Try.func29, Try.ntmps29
  go_wp2_with fail
  refine (S_below _ HC.out hn).mono ?_
  rintro e w1 ⟨x, rfl, x0, x1, hc, hO⟩
  have HCC := Lib.hid hc
  have HO := Lib.hid hO
  clear hc hO
  go_wp2
  go_ret
  exact ⟨_, rfl, HCC.out, HO.out⟩
set_option maxHeartbeats 8000000 in
theorem S_drawCamera {g c : Nat} {A : Option Addr} {l : List Int} (w : World) (h : Cur 73 w g A c l) :
    Calls Try.prog 12 #[.pointer (some ⟨g, 0, none⟩)] w fun r w' => ∃ (a b : Nat) (x y : Int) (e : Bool) (u v : Int), r = .returned (vCamera a b x y e u v) ∧ (2 ≤ a ∧ a ≤ 5) ∧ (2 ≤ b ∧ b ≤ 5) ∧ validCam a b x y u v = true ∧ Cur 73 w' g A c l ∧ Only w.heap.size [g] w w' := by
  have hgl := h.lt
  have HC := Lib.hid h
  clear h
  have HK : Hid (Own (w.alloc (.cells #[.int .i64 0, .int .i64 0, .int .i64 0, .int .i64 0, .bool false, .int .i64 0, .int .i64 0] 24)) w.heap.size 24 [.int .i64 0, .int .i64 0, .int .i64 0, .int .i64 0, .bool false, .int .i64 0, .int .i64 0]) := Own.new _ _ _
  go_enter Try.func12, Try.ntmps12
  go_wp2_with fail
  refine (S_below (n := 4) _ (HC.out.alloc _) (by omega)).mono ?_
  rintro e w1 ⟨x1, rfl, a1, b1, hc1, hO1⟩
  have hz1 := hO1.size
  (try simp at hz1)
  have HC1 := Lib.hid hc1
  have HO1 := Lib.hid (Only.trans (Only.alloc (Only.refl w.heap.size [g] w) (Nat.le_refl _) _) hO1 (by first | omega | (simp <;> omega)) (fun x hx => hx))
  have HK1 := Lib.hid (hO1.own HK.out (by first | omega | (simp <;> omega)) (by simp; omega))
  clear hc1 hO1
  obtain ⟨n1, rfl⟩ := Int.eq_ofNat_of_zero_le a1
  have y1' : IntKind.i64.wrap (2 + (n1 : Int)) = 2 + (n1 : Int) := IntWalk.i64_in _ (by omega)
  go_wp2_with fail
  refine (S_below (n := 4) _ HC1.out (by omega)).mono ?_
  rintro e w2 ⟨x2, rfl, a2, b2, hc2, hO2⟩
  have hz2 := hO2.size
  (try simp at hz2)
  have HC2 := Lib.hid hc2
  have HO2 := Lib.hid (Only.trans HO1.out hO2 (by first | omega | (simp <;> omega)) (fun x hx => hx))
  have HK2 := Lib.hid (hO2.own HK1.out (by first | omega | (simp <;> omega)) (by simp; omega))
  clear hc2 hO2
  obtain ⟨n2, rfl⟩ := Int.eq_ofNat_of_zero_le a2
  have y2' : IntKind.i64.wrap (2 + (n2 : Int)) = 2 + (n2 : Int) := IntWalk.i64_in _ (by omega)
  go_wp2_with fail
  refine (S_below (n := 200) _ HC2.out (by omega)).mono ?_
  rintro e w3 ⟨x3, rfl, a3, b3, hc3, hO3⟩
  have hz3 := hO3.size
  (try simp at hz3)
  have HC3 := Lib.hid hc3
  have HO3 := Lib.hid (Only.trans HO2.out hO3 (by first | omega | (simp <;> omega)) (fun x hx => hx))
  have HK3 := Lib.hid (hO3.own HK2.out (by first | omega | (simp <;> omega)) (by simp; omega))
  clear hc3 hO3
  have y3' : IntKind.i64.wrap (60 + x3) = 60 + x3 := IntWalk.i64_in _ (by omega)
  go_wp2_with fail
  refine (S_below (n := 60) _ HC3.out (by omega)).mono ?_
  rintro e w4 ⟨x4, rfl, a4, b4, hc4, hO4⟩
  have hz4 := hO4.size
  (try simp at hz4)
  have HC4 := Lib.hid hc4
  have HO4 := Lib.hid (Only.trans HO3.out hO4 (by first | omega | (simp <;> omega)) (fun x hx => hx))
  have HK4 := Lib.hid (hO4.own HK3.out (by first | omega | (simp <;> omega)) (by simp; omega))
  clear hc4 hO4
  have y4' : IntKind.i64.wrap (20 + x4) = 20 + x4 := IntWalk.i64_in _ (by omega)
  go_wp2_with fail
  refine (S_once (n := 2) _ (Cur.alloc HC4.out _) (by omega)).mono ?_
  rintro e w5 ⟨x5, rfl, hc5, hO5⟩
  have hz5 := hO5.size
  (try simp at hz5)
  have HC5 := Lib.hid hc5
  have HO5 := Lib.hid (Only.trans (Only.alloc HO4.out (by first | omega | (simp <;> omega)) _) hO5 (by first | omega | (simp <;> omega)) (fun x hx => hx))
  have HK5 := Lib.hid (hO5.own (Own.alloc HK4.out _) (by first | omega | (simp <;> omega)) (by simp; omega))
  have HX5 := Lib.hid (hO5.own (show Own _ _ 24 [.int .i64 (2 + (n1 : Int)), .int .i64 (2 + (n2 : Int)), .int .i64 (60 + x3), .int .i64 (20 + x4), .bool false, .int .i64 0, .int .i64 0] from Own.new _ _ #[_, _, _, _, _, _, _]) (by first | omega | (simp <;> omega)) (by simp; omega))
  clear hc5 hO5
  generalize w4.heap.size = B at *
  cases x5
  case false =>
    go_wp2_with fail
    refine (S_once (n := 3) _ HC5.out (by omega)).mono ?_
    rintro e w6 ⟨x6, rfl, hc6, hO6⟩
    have hz6 := hO6.size
    (try simp at hz6)
    have HC6 := Lib.hid hc6
    have HO6 := Lib.hid (Only.trans HO5.out hO6 (by first | omega | (simp <;> omega)) (fun x hx => hx))
    have HK6 := Lib.hid (hO6.own HK5.out (by first | omega | (simp <;> omega)) (by simp; omega))
    have HX6 := Lib.hid (hO6.own HX5.out (by first | omega | (simp <;> omega)) (by simp; omega))
    clear hc6 hO6
    cases x6
    case false =>
      have hxq := HX6.out
      have cq0 := hxq.cell 0
      have cq1 := hxq.cell 1
      have cq2 := hxq.cell 2
      have cq3 := hxq.cell 3
      have cq4 := hxq.cell 4
      have cq5 := hxq.cell 5
      have cq6 := hxq.cell 6
      have fq := hxq.frozen
      simp only [List.getElem?_cons_zero, List.getElem?_cons_succ] at cq0 cq1 cq2 cq3 cq4 cq5 cq6
      have lq := hxq.lt
      clear hxq
      have hkq := HK6.out
      have k0 := hkq.cell 0
      have k1 := hkq.cell 1
      have k2 := hkq.cell 2
      have k3 := hkq.cell 3
      have k4 := hkq.cell 4
      have k5 := hkq.cell 5
      have k6 := hkq.cell 6
      have kf := hkq.frozen
      simp only [List.getElem?_cons_zero, List.getElem?_cons_succ] at k0 k1 k2 k3 k4 k5 k6
      clear hkq
      go_wp2
      refine bodyPost_ret (v := vCamera (2 + (n1 : Int)) (2 + (n2 : Int)) (60 + x3) (20 + x4) false 0 0) (by simp [results, Try.results12, go_sem, *]) rfl ?_
      refine ⟨2 + n1, 2 + n2, (60 + x3), 20 + x4, false, 0, 0, by rw [show ((2 + n1 : Nat) : Int) = 2 + (n1 : Int) by omega, show ((2 + n2 : Nat) : Int) = 2 + (n2 : Int) by omega], by omega, by omega, ?_, ?_, ?_⟩
      · unfold validCam
        rw [inB_mk (by omega) (by omega), inB_mk (by omega) (by omega), inB_mk (by omega) (by omega), inB_mk (by omega) (by omega), inB_mk (by omega) (by omega), inB_mk (by omega) (by omega)]
        rfl
      · exact (by repeat (first | (with_reducible exact HC6.out) | (with_reducible refine Cur.drew ?_) | (with_reducible refine Cur.drewN ?_ _) | ((with_reducible refine Cur.far ?_ ?_ _); rotate_left; (first | omega | (simp <;> omega)))))
      · exact (by repeat (first | (with_reducible exact HO6.out) | (with_reducible refine Only.drew ?_) | (with_reducible refine Only.drewN ?_ _) | ((with_reducible refine Only.up ?_ ?_ _); rotate_left; (first | omega | (simp <;> omega)))))
    case true =>
      go_wp2_with fail
      refine (S_below (n := 40) _ HC6.out (by omega)).mono ?_
      rintro e w7 ⟨x7, rfl, a7, b7, hc7, hO7⟩
      have hz7 := hO7.size
      (try simp at hz7)
      have HC7 := Lib.hid hc7
      have HO7 := Lib.hid (Only.trans HO6.out hO7 (by first | omega | (simp <;> omega)) (fun x hx => hx))
      have HK7 := Lib.hid (hO7.own HK6.out (by first | omega | (simp <;> omega)) (by simp; omega))
      have HX7 := Lib.hid (hO7.own HX6.out (by first | omega | (simp <;> omega)) (by simp; omega))
      clear hc7 hO7
      have yu' : IntKind.i64.wrap (8 + x7) = 8 + x7 := IntWalk.i64_in _ (by omega)
      have hxp := HX7.out
      have cp0 := hxp.cell 0
      have cp1 := hxp.cell 1
      have cp2 := hxp.cell 2
      have cp3 := hxp.cell 3
      have cp4 := hxp.cell 4
      have cp5 := hxp.cell 5
      have cp6 := hxp.cell 6
      have fp := hxp.frozen
      simp only [List.getElem?_cons_zero, List.getElem?_cons_succ] at cp0 cp1 cp2 cp3 cp4 cp5 cp6
      have lp := hxp.lt
      clear hxp
      go_wp2_with fail
      refine (S_below (n := 200) _ (Cur.far (p := ⟨B, 5, none⟩) HC7.out (by show g < B; omega) _) (by omega)).mono ?_
      rintro e w8 ⟨x8, rfl, a8, b8, hc8, hO8⟩
      have hz8 := hO8.size
      (try simp at hz8)
      have HC8 := Lib.hid hc8
      have HO8 := Lib.hid (Only.trans (Only.up (p := ⟨B, 5, none⟩) HO7.out (by show w.heap.size ≤ B; omega) _) hO8 (by first | omega | (simp <;> omega)) (fun x hx => hx))
      have HK8 := Lib.hid (hO8.own (Own.far (p := ⟨B, 5, none⟩) HK7.out (by show w.heap.size ≠ B; omega) _) (by first | omega | (simp <;> omega)) (by simp; omega))
      have HX8 := Lib.hid (hO8.own (show Own _ _ 24 [.int .i64 (2 + (n1 : Int)), .int .i64 (2 + (n2 : Int)), .int .i64 (60 + x3), .int .i64 (20 + x4), .bool false, .int .i64 (8 + x7), .int .i64 0] from Own.set_ HX7.out 5 (.int .i64 (8 + x7))) (by first | omega | (simp <;> omega)) (by simp; omega))
      clear hc8 hO8
      have yv' : IntKind.i64.wrap (60 + x8) = 60 + x8 := IntWalk.i64_in _ (by omega)
      have hxq := HX8.out
      have cq0 := hxq.cell 0
      have cq1 := hxq.cell 1
      have cq2 := hxq.cell 2
      have cq3 := hxq.cell 3
      have cq4 := hxq.cell 4
      have cq5 := hxq.cell 5
      have cq6 := hxq.cell 6
      have fq := hxq.frozen
      simp only [List.getElem?_cons_zero, List.getElem?_cons_succ] at cq0 cq1 cq2 cq3 cq4 cq5 cq6
      have lq := hxq.lt
      clear hxq
      have hkq := HK8.out
      have k0 := hkq.cell 0
      have k1 := hkq.cell 1
      have k2 := hkq.cell 2
      have k3 := hkq.cell 3
      have k4 := hkq.cell 4
      have k5 := hkq.cell 5
      have k6 := hkq.cell 6
      have kf := hkq.frozen
      simp only [List.getElem?_cons_zero, List.getElem?_cons_succ] at k0 k1 k2 k3 k4 k5 k6
      clear hkq
      go_wp2
      refine bodyPost_ret (v := vCamera (2 + (n1 : Int)) (2 + (n2 : Int)) (60 + x3) (20 + x4) false (8 + x7) (60 + x8)) (by simp [results, Try.results12, go_sem, *]) rfl ?_
      refine ⟨2 + n1, 2 + n2, (60 + x3), 20 + x4, false, (8 + x7), (60 + x8), by rw [show ((2 + n1 : Nat) : Int) = 2 + (n1 : Int) by omega, show ((2 + n2 : Nat) : Int) = 2 + (n2 : Int) by omega], by omega, by omega, ?_, ?_, ?_⟩
      · unfold validCam
        rw [inB_mk (by omega) (by omega), inB_mk (by omega) (by omega), inB_mk (by omega) (by omega), inB_mk (by omega) (by omega), inB_mk (by omega) (by omega), inB_mk (by omega) (by omega)]
        rfl
      · exact (by repeat (first | (with_reducible exact HC8.out) | (with_reducible refine Cur.drew ?_) | (with_reducible refine Cur.drewN ?_ _) | ((with_reducible refine Cur.far ?_ ?_ _); rotate_left; (first | omega | (simp <;> omega)))))
      · exact (by repeat (first | (with_reducible exact HO8.out) | (with_reducible refine Only.drew ?_) | (with_reducible refine Only.drewN ?_ _) | ((with_reducible refine Only.up ?_ ?_ _); rotate_left; (first | omega | (simp <;> omega)))))
  case true =>
    have hxm := HX5.out
    have cm0 := hxm.cell 0
    have cm1 := hxm.cell 1
    have cm2 := hxm.cell 2
    have cm3 := hxm.cell 3
    have cm4 := hxm.cell 4
    have cm5 := hxm.cell 5
    have cm6 := hxm.cell 6
    have fm := hxm.frozen
    simp only [List.getElem?_cons_zero, List.getElem?_cons_succ] at cm0 cm1 cm2 cm3 cm4 cm5 cm6
    have lm := hxm.lt
    clear hxm
    go_wp2_with fail
    refine (S_below (n := 120) _ (Cur.far (p := ⟨B, 4, none⟩) HC5.out (by show g < B; omega) _) (by omega)).mono ?_
    rintro e w9 ⟨x9, rfl, a9, b9, hc9, hO9⟩
    have hz9 := hO9.size
    (try simp at hz9)
    have HC9 := Lib.hid hc9
    have HO9 := Lib.hid (Only.trans (Only.up (p := ⟨B, 4, none⟩) HO5.out (by show w.heap.size ≤ B; omega) _) hO9 (by first | omega | (simp <;> omega)) (fun x hx => hx))
    have HK9 := Lib.hid (hO9.own (Own.far (p := ⟨B, 4, none⟩) HK5.out (by show w.heap.size ≠ B; omega) _) (by first | omega | (simp <;> omega)) (by simp; omega))
    have HX9 := Lib.hid (hO9.own (show Own _ _ 24 [.int .i64 (2 + (n1 : Int)), .int .i64 (2 + (n2 : Int)), .int .i64 (60 + x3), .int .i64 (20 + x4), .bool true, .int .i64 0, .int .i64 0] from Own.set_ HX5.out 4 (.bool true)) (by first | omega | (simp <;> omega)) (by simp; omega))
    clear hc9 hO9
    have yz' : IntKind.i64.wrap (60 + x9) = 60 + x9 := IntWalk.i64_in _ (by omega)
    have hxn := HX9.out
    have cn0 := hxn.cell 0
    have cn1 := hxn.cell 1
    have cn2 := hxn.cell 2
    have cn3 := hxn.cell 3
    have cn4 := hxn.cell 4
    have cn5 := hxn.cell 5
    have cn6 := hxn.cell 6
    have fn := hxn.frozen
    simp only [List.getElem?_cons_zero, List.getElem?_cons_succ] at cn0 cn1 cn2 cn3 cn4 cn5 cn6
    have ln := hxn.lt
    clear hxn
    go_wp2_with fail
    refine (S_once (n := 3) _ (Cur.far (p := ⟨B, 2, none⟩) HC9.out (by show g < B; omega) _) (by omega)).mono ?_
    rintro e w10 ⟨x10, rfl, hc10, hO10⟩
    have hz10 := hO10.size
    (try simp at hz10)
    have HC10 := Lib.hid hc10
    have HO10 := Lib.hid (Only.trans (Only.up (p := ⟨B, 2, none⟩) HO9.out (by show w.heap.size ≤ B; omega) _) hO10 (by first | omega | (simp <;> omega)) (fun x hx => hx))
    have HK10 := Lib.hid (hO10.own (Own.far (p := ⟨B, 2, none⟩) HK9.out (by show w.heap.size ≠ B; omega) _) (by first | omega | (simp <;> omega)) (by simp; omega))
    have HX10 := Lib.hid (hO10.own (show Own _ _ 24 [.int .i64 (2 + (n1 : Int)), .int .i64 (2 + (n2 : Int)), .int .i64 (60 + x9), .int .i64 (20 + x4), .bool true, .int .i64 0, .int .i64 0] from Own.set_ HX9.out 2 (.int .i64 (60 + x9))) (by first | omega | (simp <;> omega)) (by simp; omega))
    clear hc10 hO10
    cases x10
    case false =>
      have hxq := HX10.out
      have cq0 := hxq.cell 0
      have cq1 := hxq.cell 1
      have cq2 := hxq.cell 2
      have cq3 := hxq.cell 3
      have cq4 := hxq.cell 4
      have cq5 := hxq.cell 5
      have cq6 := hxq.cell 6
      have fq := hxq.frozen
      simp only [List.getElem?_cons_zero, List.getElem?_cons_succ] at cq0 cq1 cq2 cq3 cq4 cq5 cq6
      have lq := hxq.lt
      clear hxq
      have hkq := HK10.out
      have k0 := hkq.cell 0
      have k1 := hkq.cell 1
      have k2 := hkq.cell 2
      have k3 := hkq.cell 3
      have k4 := hkq.cell 4
      have k5 := hkq.cell 5
      have k6 := hkq.cell 6
      have kf := hkq.frozen
      simp only [List.getElem?_cons_zero, List.getElem?_cons_succ] at k0 k1 k2 k3 k4 k5 k6
      clear hkq
      go_wp2
      refine bodyPost_ret (v := vCamera (2 + (n1 : Int)) (2 + (n2 : Int)) (60 + x9) (20 + x4) true 0 0) (by simp [results, Try.results12, go_sem, *]) rfl ?_
      refine ⟨2 + n1, 2 + n2, (60 + x9), 20 + x4, true, 0, 0, by rw [show ((2 + n1 : Nat) : Int) = 2 + (n1 : Int) by omega, show ((2 + n2 : Nat) : Int) = 2 + (n2 : Int) by omega], by omega, by omega, ?_, ?_, ?_⟩
      · unfold validCam
        rw [inB_mk (by omega) (by omega), inB_mk (by omega) (by omega), inB_mk (by omega) (by omega), inB_mk (by omega) (by omega), inB_mk (by omega) (by omega), inB_mk (by omega) (by omega)]
        rfl
      · exact (by repeat (first | (with_reducible exact HC10.out) | (with_reducible refine Cur.drew ?_) | (with_reducible refine Cur.drewN ?_ _) | ((with_reducible refine Cur.far ?_ ?_ _); rotate_left; (first | omega | (simp <;> omega)))))
      · exact (by repeat (first | (with_reducible exact HO10.out) | (with_reducible refine Only.drew ?_) | (with_reducible refine Only.drewN ?_ _) | ((with_reducible refine Only.up ?_ ?_ _); rotate_left; (first | omega | (simp <;> omega)))))
    case true =>
      go_wp2_with fail
      refine (S_below (n := 40) _ HC10.out (by omega)).mono ?_
      rintro e w11 ⟨x11, rfl, a11, b11, hc11, hO11⟩
      have hz11 := hO11.size
      (try simp at hz11)
      have HC11 := Lib.hid hc11
      have HO11 := Lib.hid (Only.trans HO10.out hO11 (by first | omega | (simp <;> omega)) (fun x hx => hx))
      have HK11 := Lib.hid (hO11.own HK10.out (by first | omega | (simp <;> omega)) (by simp; omega))
      have HX11 := Lib.hid (hO11.own HX10.out (by first | omega | (simp <;> omega)) (by simp; omega))
      clear hc11 hO11
      have yu' : IntKind.i64.wrap (8 + x11) = 8 + x11 := IntWalk.i64_in _ (by omega)
      have hxp := HX11.out
      have cp0 := hxp.cell 0
      have cp1 := hxp.cell 1
      have cp2 := hxp.cell 2
      have cp3 := hxp.cell 3
      have cp4 := hxp.cell 4
      have cp5 := hxp.cell 5
      have cp6 := hxp.cell 6
      have fp := hxp.frozen
      simp only [List.getElem?_cons_zero, List.getElem?_cons_succ] at cp0 cp1 cp2 cp3 cp4 cp5 cp6
      have lp := hxp.lt
      clear hxp
      go_wp2_with fail
      refine (S_below (n := 200) _ (Cur.far (p := ⟨B, 5, none⟩) HC11.out (by show g < B; omega) _) (by omega)).mono ?_
      rintro e w12 ⟨x12, rfl, a12, b12, hc12, hO12⟩
      have hz12 := hO12.size
      (try simp at hz12)
      have HC12 := Lib.hid hc12
      have HO12 := Lib.hid (Only.trans (Only.up (p := ⟨B, 5, none⟩) HO11.out (by show w.heap.size ≤ B; omega) _) hO12 (by first | omega | (simp <;> omega)) (fun x hx => hx))
      have HK12 := Lib.hid (hO12.own (Own.far (p := ⟨B, 5, none⟩) HK11.out (by show w.heap.size ≠ B; omega) _) (by first | omega | (simp <;> omega)) (by simp; omega))
      have HX12 := Lib.hid (hO12.own (show Own _ _ 24 [.int .i64 (2 + (n1 : Int)), .int .i64 (2 + (n2 : Int)), .int .i64 (60 + x9), .int .i64 (20 + x4), .bool true, .int .i64 (8 + x11), .int .i64 0] from Own.set_ HX11.out 5 (.int .i64 (8 + x11))) (by first | omega | (simp <;> omega)) (by simp; omega))
      clear hc12 hO12
      have yv' : IntKind.i64.wrap (60 + x12) = 60 + x12 := IntWalk.i64_in _ (by omega)
      have hxq := HX12.out
      have cq0 := hxq.cell 0
      have cq1 := hxq.cell 1
      have cq2 := hxq.cell 2
      have cq3 := hxq.cell 3
      have cq4 := hxq.cell 4
      have cq5 := hxq.cell 5
      have cq6 := hxq.cell 6
      have fq := hxq.frozen
      simp only [List.getElem?_cons_zero, List.getElem?_cons_succ] at cq0 cq1 cq2 cq3 cq4 cq5 cq6
      have lq := hxq.lt
      clear hxq
      have hkq := HK12.out
      have k0 := hkq.cell 0
      have k1 := hkq.cell 1
      have k2 := hkq.cell 2
      have k3 := hkq.cell 3
      have k4 := hkq.cell 4
      have k5 := hkq.cell 5
      have k6 := hkq.cell 6
      have kf := hkq.frozen
      simp only [List.getElem?_cons_zero, List.getElem?_cons_succ] at k0 k1 k2 k3 k4 k5 k6
      clear hkq
      go_wp2
      refine bodyPost_ret (v := vCamera (2 + (n1 : Int)) (2 + (n2 : Int)) (60 + x9) (20 + x4) true (8 + x11) (60 + x12)) (by simp [results, Try.results12, go_sem, *]) rfl ?_
      refine ⟨2 + n1, 2 + n2, (60 + x9), 20 + x4, true, (8 + x11), (60 + x12), by rw [show ((2 + n1 : Nat) : Int) = 2 + (n1 : Int) by omega, show ((2 + n2 : Nat) : Int) = 2 + (n2 : Int) by omega], by omega, by omega, ?_, ?_, ?_⟩
      · unfold validCam
        rw [inB_mk (by omega) (by omega), inB_mk (by omega) (by omega), inB_mk (by omega) (by omega), inB_mk (by omega) (by omega), inB_mk (by omega) (by omega), inB_mk (by omega) (by omega)]
        rfl
      · exact (by repeat (first | (with_reducible exact HC12.out) | (with_reducible refine Cur.drew ?_) | (with_reducible refine Cur.drewN ?_ _) | ((with_reducible refine Cur.far ?_ ?_ _); rotate_left; (first | omega | (simp <;> omega)))))
      · exact (by repeat (first | (with_reducible exact HO12.out) | (with_reducible refine Only.drew ?_) | (with_reducible refine Only.drewN ?_ _) | ((with_reducible refine Only.up ?_ ?_ _); rotate_left; (first | omega | (simp <;> omega)))))
end Go.Proofs.Ythpanpedoeghoaa
