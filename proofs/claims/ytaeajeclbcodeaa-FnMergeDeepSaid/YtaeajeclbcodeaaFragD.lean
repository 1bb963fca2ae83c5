/- Drawn fragments. -/
import Derived.Test.YtaeajeclbcodeaaFragS
import Derived.Test.YtaeajeclbcodeaaDeepLaw
import Derived.Test.YtaeajeclbcodeaaCursor
import Derived.Test.YtaeajeclbcodeaaMerge
namespace Go.Proofs.Ytaeajeclbcodeaa
open Go.RowKit
set_option linter.unusedVariables false
set_option maxRecDepth 100000
set_option maxHeartbeats 2000000 in
theorem S_pick5 {g c b o d : Nat} {A : Option Addr} {l : List Int} {y0 y1 y2 y3 y4 : Int} (w : World) (h : Cur 99 w g A c l) (hr : RS w 1 (some ⟨b, o, none⟩) 5 d (ints [y0, y1, y2, y3, y4])) (hb : b ≠ g) :
    Calls Try.prog 74 #[.pointer (some ⟨g, 0, none⟩), .slice (some ⟨b, o, none⟩) 5 d] w fun e w' => ∃ x : Int, e = .returned (.int .i64 x) ∧ Cur 99 w' g A c l ∧ Only w.heap.size [g] w w' := by
  have HC := Lib.hid h
  have HR := Lib.hid hr
  clear h hr
  go_enter Try.func74, Try.ntmps74
  go_wp2_with fail
  refine (S_below (n := 5) _ HC.out (by omega)).mono ?_
  rintro e w1 ⟨x, rfl, x0, x1, hc, hO⟩
  have hr1 := RS.only HR.out hO (Nat.le_refl _) (fun _ y hy => by simp [gOf] at hy ⊢; omega)
  obtain ⟨b', o', he, hbh, hcell⟩ := hr1.open_.2.2 (by omega)
  injection he with he
  injection he with he1 he2
  subst he1; subst he2
  obtain ⟨k, rfl⟩ := Int.eq_ofNat_of_zero_le x0
  have hk5 : k < [y0, y1, y2, y3, y4].length := by simp; omega
  have c1 : w1.cell? ⟨b, o + k, none⟩ = some (.int .i64 [y0, y1, y2, y3, y4][k]) := by rw [hcell k (by omega), ints_at hk5]
  have i2 : (k : Int) < 5 := by omega
  have HCC := Lib.hid hc
  have HO := Lib.hid hO
  clear hcell hc hO hr1
  generalize [y0, y1, y2, y3, y4][k] = v at *
  go_wp2
  go_ret
  exact ⟨v, rfl, HCC.out, HO.out⟩
set_option maxHeartbeats 4000000 in
theorem S_drawFragment {g c : Nat} {A : Option Addr} {l : List Int} (w : World) (h : Cur 99 w g A c l) :
    Calls Try.prog 49 #[.pointer (some ⟨g, 0, none⟩)] w fun e w' => ∃ f : EFragment, e = .returned (vFrag f) ∧ (50 ≤ f.1 ∧ f.1 ≤ 55) ∧ Cur 99 w' g A c l ∧ Only w.heap.size [g] w w' := by
  have hgl := h.lt
  have HC := Lib.hid h
  clear h
  have hk : Own (w.alloc (.cells #[.int .i64 0, .int .i64 0, .int .i64 0, .int .i64 0, .int .i64 0] 48)) w.heap.size 48 [.int .i64 0, .int .i64 0, .int .i64 0, .int .i64 0, .int .i64 0] := Own.new _ _ _
  have HK := Lib.hid hk
  clear hk
  go_enter Try.func49, Try.ntmps49
  go_wp2_with fail
  refine (S_below (n := 6) _ (HC.out.alloc _) (by omega)).mono ?_
  rintro e w1 ⟨x1, rfl, a1, b1, hc1, hO1⟩
  have hz1 := hO1.size
  (try simp at hz1)
  have HC1 := Lib.hid hc1
  have HO1 := Lib.hid (Only.trans (Only.alloc (Only.refl w.heap.size [g] w) (Nat.le_refl _) _) hO1 (by simp) (fun x hx => hx))
  have HK1 := Lib.hid (hO1.own HK.out (by simp) (by simp; omega))
  have y1' : IntKind.i64.wrap (50 + x1) = 50 + x1 := IntWalk.i64_in _ (by omega)
  clear hc1 hO1
  go_wp2_with fail
  refine (S_below (n := 3) _ HC1.out (by omega)).mono ?_
  rintro e w2 ⟨x2, rfl, a2, b2, hc2, hO2⟩
  have hz2 := hO2.size
  have HC2 := Lib.hid hc2
  have HO2 := Lib.hid (Only.trans HO1.out hO2 (by omega) (fun x hx => hx))
  have HK2 := Lib.hid (hO2.own HK1.out (by omega) (by simp; omega))
  clear hc2 hO2
  go_wp2_with fail
  refine (S_below (n := 4) _ HC2.out (by omega)).mono ?_
  rintro e w3 ⟨x3, rfl, a3, b3, hc3, hO3⟩
  have hz3 := hO3.size
  have HC3 := Lib.hid hc3
  have HO3 := Lib.hid (Only.trans HO2.out hO3 (by omega) (fun x hx => hx))
  have HK3 := Lib.hid (hO3.own HK2.out (by omega) (by simp; omega))
  clear hc3 hO3
  go_wp2_with fail
  refine (S_below4 (n := 257) _ HC3.out (by omega)).mono ?_
  rintro e w4 ⟨x4, rfl, a4, b4, hc4, hO4⟩
  have hz4 := hO4.size
  have HC4 := Lib.hid hc4
  have HO4 := Lib.hid (Only.trans HO3.out hO4 (by omega) (fun x hx => hx))
  have HK4 := Lib.hid (hO4.own HK3.out (by omega) (by simp; omega))
  clear hc4 hO4
  go_wp2_with fail
  refine (S_below4 (n := 257) _ HC4.out (by omega)).mono ?_
  rintro e w5 ⟨x5, rfl, a5, b5, hc5, hO5⟩
  have hz5 := hO5.size
  have HC5 := Lib.hid hc5
  have HO5 := Lib.hid (Only.trans HO4.out hO5 (by omega) (fun x hx => hx))
  have HK5 := Lib.hid (hO5.own HK4.out (by omega) (by simp; omega))
  clear hc5 hO5
  go_wp2_with fail
  refine (S_pick5 (y0 := 256) (y1 := 256) (y2 := 128) (y3 := 0) (y4 := x5) _ (HC5.out.alloc _) (Grow.rs (base := 0) (n := 5) (c := 5) (by repeat (first | (with_reducible refine Grow.drewN ?_ _) | (with_reducible refine Grow.drew ?_) | (refine Grow.lit_at (by simp) (by rfl) (Nat.zero_le _) (by unfold maxLen; omega))))) (by omega)).mono ?_
  rintro e w6 ⟨x6, rfl, hc6, hO6⟩
  have hz6 := hO6.size
  (try simp at hz6)
  have HC6 := Lib.hid hc6
  have HO6 := Lib.hid (Only.trans (Only.alloc HO5.out (by omega) _) hO6 (by simp; omega) (fun x hx => hx))
  have hk6 := hO6.own (HK5.out.alloc _) (by simp; omega) (by simp; omega)
  have r0 := hk6.cell 0
  have r1 := hk6.cell 1
  have r2 := hk6.cell 2
  have r3 := hk6.cell 3
  have r4 := hk6.cell 4
  have rf := hk6.frozen
  simp only [List.getElem?_cons_zero, List.getElem?_cons_succ] at r0 r1 r2 r3 r4
  clear hc6 hO6 hk6
  go_wp2
  refine bodyPost_ret (v := vFrag (50 + x1, x2, x3, x4, x6)) (by simp [results, Try.results49, go_sem, *]) rfl ?_
  refine ⟨(50 + x1, x2, x3, x4, x6), rfl, ⟨by show 50 ≤ 50 + x1; omega, by show 50 + x1 ≤ 55; omega⟩, ?_, ?_⟩
  · exact (by repeat (first | (with_reducible exact HC6.out) | (with_reducible refine Cur.drew ?_) | (with_reducible refine Cur.drewN ?_ _) | ((with_reducible refine Cur.far ?_ ?_ _); rotate_left; (first | omega | (simp <;> omega)))))
  · exact (by repeat (first | (with_reducible exact HO6.out) | (with_reducible refine Only.drew ?_) | (with_reducible refine Only.drewN ?_ _) | ((with_reducible refine Only.up ?_ ?_ _); rotate_left; (first | omega | (simp <;> omega)))))
/-- A few fragments in order, in a row of their own. -/
def DrawnFrags (w : World) (e : Ending) (w' : World) : Prop := ∃ (fl : List EFragment) (b d : Nat), e = .returned (.slice (some ⟨b, 0, none⟩) fl.length d) ∧ fl.length ≤ 5 ∧ OrderF fl ∧ (∀ x, x ∈ fl → 50 ≤ x.1 ∧ x.1 ≤ 55) ∧ w.heap.size ≤ b ∧ OwnS w' 5 (some ⟨b, 0, none⟩) fl.length d 48 (rFragment fl)
set_option maxHeartbeats 4000000 in
theorem S_drawList {g c : Nat} {A : Option Addr} {l : List Int} (w : World) (h : Cur 99 w g A c l) :
    Calls Try.prog 43 #[.pointer (some ⟨g, 0, none⟩)] w fun e w' => DrawnFrags w e w' ∧ Cur 99 w' g A c l ∧ Only w.heap.size [g] w w' := by
  have hgl := h.lt
  have HC := Lib.hid h
  clear h
  have HG0 : Hid (OwnS (w.alloc (.cells #[] 48)) 5 (some ⟨w.heap.size, 0, none⟩) 0 0 48 (rFragment [])) := Grow.ownS (base := 0) (Grow.lit_at (cs := #[]) rfl rfl (Nat.zero_le _) (Nat.zero_le _))
  go_enter Try.func43, Try.ntmps43
  go_wp2_with fail
  refine (S_below (n := 6) _ (HC.out.alloc _) (by omega)).mono ?_
  rintro e w1 ⟨x1, rfl, a1, b1, hc1, hO1⟩
  have hz1 := hO1.size
  (try simp at hz1)
  obtain ⟨n1, rfl⟩ := Int.eq_ofNat_of_zero_le a1
  have HC1 := Lib.hid hc1
  have HG1 : Hid (OwnS w1 5 (some ⟨w.heap.size, 0, none⟩) 0 0 48 (rFragment [])) := Lib.hid (OwnS.only HG0.out hO1 (fun x hx => by simp [gOf] at hx; subst hx; simp; omega))
  have HO1 := Lib.hid (Only.trans (Only.alloc (Only.refl w.heap.size [g] w) (Nat.le_refl _) _) hO1 (by simp) (fun x hx => hx))
  clear hc1 hO1
  go_wp2_with fail
  go_loopw [3, 4] (fun t i wr => ∃ (fl : List EFragment) (b d n : Nat), t = .slice (some ⟨b, 0, none⟩) fl.length d ∧ i = .int .i64 n ∧ fl.length + n ≤ 5 ∧ OrderF fl ∧ (∀ x, x ∈ fl → 50 ≤ x.1 ∧ x.1 ≤ 55) ∧ w.heap.size ≤ b ∧ OwnS wr 5 (some ⟨b, 0, none⟩) fl.length d 48 (rFragment fl) ∧ Cur 99 wr g A c l ∧ Only w.heap.size [g] w wr) (fun _ i _ => (intOf i).toNat)
  case atStart => exact ⟨[], _, _, n1, rfl, rfl, by simp; omega, by simp [OrderF], fun x hx => absurd hx (by simp), Nat.le_refl _, HG1.out, HC1.out, HO1.out⟩
  case round =>
    obtain ⟨fl, b, d, n, rfl, rfl, hn, hor, hrg, hbw, how, hc, hO⟩ := hrel
    have hz := hO.size
    have hbl := how.lt b (by simp [gOf])
    have HOR := Lib.hid hor
    have HRG := Lib.hid hrg
    have HOW := Lib.hid how
    have HCr := Lib.hid hc
    have HO := Lib.hid hO
    clear hor hrg how hc hO
    by_cases hlt : 0 < n
    · have i1 : (0 : Int) < n := by omega
      have y0' : IntKind.i64.wrap ((n : Int) - 1) = (n : Int) - 1 := IntWalk.i64_in _ (by omega)
      go_wp2_with fail
      refine (S_drawFragment _ HCr.out).mono ?_
      rintro e w2 ⟨f, rfl, ⟨f1, f2⟩, hc2, hO2⟩
      have hz2 := hO2.size
      have HC2 := Lib.hid hc2
      have HR2 := Lib.hid (OwnS.only HOW.out hO2 (fun x hx => by simp [gOf] at hx; subst hx; simp; omega)).rs
      have HO2 := Lib.hid (Only.trans HO.out hO2 (by omega) (fun x hx => hx))
      clear hc2 hO2
      go_wp2_with fail
      refine (S_InsertFragment (f := f) _ (by omega) HR2.out).mono ?_
      rintro e w3 ⟨P, pc, rfl, po, pge, hb3⟩
      have hil := insF_len f fl
      obtain ⟨g5, ds5, rfl, _, _, _⟩ := OwnS.block po (by omega)
      have hg5 := pge g5 (by simp [gOf])
      have HC3 := Lib.hid (HC2.out.step hb3)
      have HO3 := Lib.hid (Only.trans HO2.out (Only.of_below hb3 [g]) (by omega) (fun x hx => hx))
      have HP := Lib.hid po
      have HRG3 : Hid (∀ x, x ∈ insF f fl → 50 ≤ x.1 ∧ x.1 ≤ 55) := fun x hx => by
        rcases mem_insF hx with rfl | hx
        · exact ⟨f1, f2⟩
        · exact HRG.out x hx
      clear po pge hb3
      go_wp2_with fail
      go_roundw
      case rel => exact ⟨insF f fl, g5, _, n - 1, by rw [insF_len], by rw [show ((n - 1 : Nat) : Int) = (n : Int) - 1 by omega], by omega, insF_order f fl HOR.out, HRG3.out, by omega, HP.out, HC3.out, HO3.out⟩
      case measure => simp [intOf]; omega
    · have i1 : ¬ (0 : Int) < n := by omega
      go_wp2_with fail
      go_ret
      exact ⟨⟨fl, b, d, rfl, by omega, HOR.out, HRG.out, hbw, HOW.out⟩, HCr.out, HO.out⟩
set_option maxHeartbeats 4000000 in
theorem S_makeFragments {c : Nat} {A : Option Addr} {l : List Int} (w : World) (hl : l.length ≤ 1048576) (h : RS w 1 A l.length c (u8s l)) :
    Calls Try.prog 18 #[.slice A l.length c] w fun e w' => DrawnFrags w e w' ∧ Below w.heap.size w w' := by
  have HR := Lib.hid h
  clear h
  go_enter Try.func18, Try.ntmps18
  go_wp2_with fail
  refine (S_newCur _ hl HR.out).mono ?_
  rintro e w1 ⟨g, rfl, hg, hc, hb⟩
  have hz1 := hb.size
  have HC := Lib.hid hc
  have HB := Lib.hid hb
  clear hc hb
  go_wp2_with fail
  refine (S_drawList _ HC.out).mono ?_
  rintro e w2 ⟨⟨fl, b, d, rfl, h1, h2, h3, h4, h5⟩, hc, hO⟩
  have HO := Lib.hid (HB.out.trans (hO.below hz1 (fun x hx => by simp at hx; omega)))
  have H5 := Lib.hid h5
  have H2 := Lib.hid h2
  have H3 := Lib.hid h3
  clear hc hO h5 h2 h3
  go_wp2
  go_ret
  exact ⟨⟨fl, b, d, rfl, h1, H2.out, H3.out, by omega, H5.out⟩, HO.out⟩
end Go.Proofs.Ytaeajeclbcodeaa
