/- A drawn sample; what a law draws of a camera, a filter and a sample. -/
import Derived.Test.YthfnldjldfkmnaaSmpD
import Derived.Test.YthfnldjldfkmnaaMade
namespace Go.Proofs.Ythfnldjldfkmnaa
open Go.RowKit
set_option linter.unusedVariables false
set_option maxRecDepth 100000
theorem Only.undrew {B : Nat} {G : List Nat} {w w' : World} (h : Only B G w.drew w') : Only B G w w' := ⟨h.os, h.tape, h.output, h.size, h.block⟩
theorem Only.undrewN {B n : Nat} {G : List Nat} {w w' : World} (h : Only B G (w.drewN n) w') : Only B G w w' := ⟨h.os, h.tape, h.output, h.size, h.block⟩
theorem Below.undrew {B : Nat} {w w' : World} (h : Below B w.drew w') : Below B w w' := ⟨h.os, h.tape, h.output, h.size, h.block⟩
theorem Below.undrewS {w w' : World} (h : Below w.drew.heap.size w.drew w') : Below w.heap.size w w' := ⟨h.os, h.tape, h.output, h.size, h.block⟩
theorem Only.undrewS {G : List Nat} {w w' : World} (h : Only w.drew.heap.size G w.drew w') : Only w.heap.size G w w' := ⟨h.os, h.tape, h.output, h.size, h.block⟩
theorem Below.undrewN {B n : Nat} {w w' : World} (h : Below B (w.drewN n) w') : Below B w w' := ⟨h.os, h.tape, h.output, h.size, h.block⟩
set_option maxHeartbeats 8000000 in
theorem S_drawSample {a b : Nat} {x y u v : Int} {e : Bool} {g c : Nat} {A : Option Addr} {l : List Int} (w : World) (hc : validCam a b x y u v = true) (h : Cur 200 w g A c l) :
    Calls Try.prog 99 #[.pointer (some ⟨g, 0, none⟩), vCamera a b x y e u v] w fun r w' => ∃ p q t s z : Int, r = .returned (vSample p q t s z) ∧ ((0 ≤ p ∧ p ≤ a * 16 - 1) ∧ 0 ≤ q ∧ q ≤ b * 16 - 1) ∧ Cur 200 w' g A c l ∧ Only w.heap.size [g] w w' := by
  obtain ⟨⟨a1, a2⟩, ⟨b1, b2⟩, _⟩ := validCam_true hc
  have hgl := h.lt
  have HV := Lib.hid hc
  have HC : Hid (Cur 200 ((w.alloc (.cells #[.int .i64 a, .int .i64 b, .int .i64 x, .int .i64 y, .bool e, .int .i64 u, .int .i64 v] 45)).alloc (.cells #[.int .i64 0, .int .i64 0, .int .i64 0, .int .i64 0, .int .i64 0] 51)) g A c l) := Cur.alloc (Cur.alloc h _) _
  have HO : Hid (Only w.heap.size [g] w ((w.alloc (.cells #[.int .i64 a, .int .i64 b, .int .i64 x, .int .i64 y, .bool e, .int .i64 u, .int .i64 v] 45)).alloc (.cells #[.int .i64 0, .int .i64 0, .int .i64 0, .int .i64 0, .int .i64 0] 51))) := Only.alloc (Only.alloc (Only.refl w.heap.size [g] w) (Nat.le_refl _) _) (by simp) _
  have HK : Hid (Box ((w.alloc (.cells #[.int .i64 a, .int .i64 b, .int .i64 x, .int .i64 y, .bool e, .int .i64 u, .int .i64 v] 45)).alloc (.cells #[.int .i64 0, .int .i64 0, .int .i64 0, .int .i64 0, .int .i64 0] 51)) w.heap.size [.int .i64 a, .int .i64 b, .int .i64 x, .int .i64 y, .bool e, .int .i64 u, .int .i64 v]) := Box.of_own (Own.alloc (Own.new w 45 #[.int .i64 a, .int .i64 b, .int .i64 x, .int .i64 y, .bool e, .int .i64 u, .int .i64 v]) _)
  have HL : Hid (Own ((w.alloc (.cells #[.int .i64 a, .int .i64 b, .int .i64 x, .int .i64 y, .bool e, .int .i64 u, .int .i64 v] 45)).alloc (.cells #[.int .i64 0, .int .i64 0, .int .i64 0, .int .i64 0, .int .i64 0] 51)) (w.heap.size + 1) 51 [.int .i64 0, .int .i64 0, .int .i64 0, .int .i64 0, .int .i64 0]) := Own.at_new (cs := #[_, _, _, _, _]) (by simp)
  clear h hc
  go_enter Try.func99, Try.ntmps99
  go_wp2_with fail
  generalize hw0 : (w.alloc _).alloc _ = w0 at *
  have hz0 : w0.heap.size = w.heap.size + 1 + 1 := by rw [← hw0]; simp
  clear hw0
  obtain ⟨z0, c0, c1, c2, c3, c4, c5, c6⟩ := HK.out.open7
  clear z0
  go_region_held3 (fun w' => w'.cell? ⟨w.heap.size, 0, none⟩ = some (.int .i64 a) ∧ w'.cell? ⟨w.heap.size, 1, none⟩ = some (.int .i64 b) ∧ w'.cell? ⟨w.heap.size, 2, none⟩ = some (.int .i64 x) ∧ w'.cell? ⟨w.heap.size, 3, none⟩ = some (.int .i64 y) ∧ w'.cell? ⟨w.heap.size, 4, none⟩ = some (.bool e) ∧ w'.cell? ⟨w.heap.size, 5, none⟩ = some (.int .i64 u) ∧ w'.cell? ⟨w.heap.size, 6, none⟩ = some (.int .i64 v))
    (first | ((try dsimp only); refine ⟨?_, ?_, ?_, ?_, ?_, ?_, ?_⟩ <;> (go_simp; done)) | go_keep)
    (first | (go_at_call 161; (with_reducible refine (S_below (n := (a : Int)) (g := g) (A := A) (c := c) (l := l) _ (by repeat (first | (with_reducible exact HC.out) | (with_reducible refine Cur.drew ?_) | (with_reducible refine Cur.drewN ?_ _))) (by omega)).mono ?_); rintro e1 w1 ⟨x1, rfl, x10, x11, hc1, hO1⟩; have hz1 := hO1.size; (try simp at hz1); have HC1 := Lib.hid hc1; have HO1 := Lib.hid hO1; have cc1 := (hO1.cell w.heap.size (by first | omega | (simp <;> omega)) (by simp; omega)).1; clear hc1 hO1) | (go_at_call 161; (with_reducible refine (S_below (n := (b : Int)) (g := g) (A := A) (c := c) (l := l) _ (by repeat (first | (with_reducible exact HC1.out) | (with_reducible refine Cur.drew ?_) | (with_reducible refine Cur.drewN ?_ _))) (by omega)).mono ?_); rintro e2 w2 ⟨x2, rfl, x20, x21, hc2, hO2⟩; have hz2 := hO2.size; (try simp at hz2); have HC2 := Lib.hid hc2; have HO2 := Lib.hid hO2; have cc2 := (hO2.cell w.heap.size (by first | omega | (simp <;> omega)) (by simp; omega)).1; clear hc2 hO2) | (go_at_call 163; (with_reducible refine (S_pixelSamples _ HV.out ⟨x10, x11⟩ ⟨x20, x21⟩).mono ?_); rintro e3 w3 ⟨s, B, d, rfl, hsl, hin, hrs, hBg, hb3⟩; have hz3 := hb3.size; (try simp at hz3); have HIN := Lib.hid hin; have HR := Lib.hid hrs; have HS := Lib.hid hsl; have HB3 := Lib.hid hb3; clear hin hrs hsl; have cc3 := fun o => hb3.cell (p := ⟨w.heap.size, o, none⟩) (by first | omega | (simp <;> omega)); clear hb3) | fail)
  all_goals
    have hb3 := HB3.out
    have HC3 : Hid (Cur 200 w3 g A c l) := Lib.hid (Cur.step hb3 (by repeat (first | (with_reducible exact HC2.out) | (with_reducible refine Cur.drew ?_) | (with_reducible refine Cur.drewN ?_ _))))
    have hO1 : Only w0.heap.size [g] w0 w1 := by first | (with_reducible exact HO1.out) | (with_reducible exact HO1.out.undrew) | (with_reducible exact HO1.out.undrewN)
    have hO2 : Only w1.heap.size [g] w1 w2 := by first | (with_reducible exact HO2.out) | (with_reducible exact HO2.out.undrew) | (with_reducible exact HO2.out.undrewN)
    have hb3' : Below w2.heap.size w2 w3 := by first | (with_reducible exact hb3) | (with_reducible exact Below.undrew hb3) | (with_reducible exact Below.undrewN hb3)
    have HO3 : Hid (Only w.heap.size [g] w w3) := Lib.hid (Only.trans (Only.trans (Only.trans HO.out hO1 (by omega) (fun x hx => hx)) hO2 (by omega) (fun x hx => hx)) (Only.of_below hb3' [g]) (by omega) (fun x hx => hx))
    have HL3 : Hid (Own w3 (w.heap.size + 1) 51 [.int .i64 0, .int .i64 0, .int .i64 0, .int .i64 0, .int .i64 0]) := Lib.hid ((hO2.own (hO1.own HL.out (by omega) (by simp; omega)) (by omega) (by simp; omega)).step hb3')
    clear hb3 hb3' hO1 hO2 cc1 cc2 cc3 c0 c1 c2 c3 c4 c5 c6
    go_wp2_with fail
    refine (S_below (n := 4) _ HC3.out (by omega)).mono ?_
    rintro e4 w4 ⟨x4, rfl, x40, x41, hc4, hO4⟩
    have hz4 := hO4.size
    obtain ⟨k, rfl⟩ := Int.eq_ofNat_of_zero_le x40
    have hsl := HS.out
    have hk : k < s.length := by omega
    have hin := HIN.out s[k] (List.getElem_mem hk)
    have hr4 : RS w4 5 (some ⟨B, 0, none⟩) 4 d (rFragment s) := RS.only HR.out hO4 (Nat.le_refl _) (fun _ x hx => by simp [gOf] at hx ⊢; omega)
    obtain ⟨b', o', hbo, hBlt, hcell⟩ := hr4.open_.2.2 (by omega)
    simp only [Option.some.injEq, Addr.mk.injEq, and_true] at hbo
    obtain ⟨rfl, rfl⟩ := hbo
    obtain ⟨q0, q1, q2, q3, q4⟩ := rFragment_at (l := s) hk
    have k0 : w4.cell? ⟨B, k * 5, none⟩ = some (.int .i64 s[k].1) := by have := hcell (k * 5) (by omega); rw [q0, Nat.zero_add] at this; exact this
    have k1 : w4.cell? ⟨B, k * 5 + 1, none⟩ = some (.int .i64 s[k].2.1) := by have := hcell (k * 5 + 1) (by omega); rw [q1, Nat.zero_add] at this; exact this
    have k2 : w4.cell? ⟨B, k * 5 + 2, none⟩ = some (.int .i64 s[k].2.2.1) := by have := hcell (k * 5 + 2) (by omega); rw [q2, Nat.zero_add] at this; exact this
    have k3 : w4.cell? ⟨B, k * 5 + 3, none⟩ = some (.int .i64 s[k].2.2.2.1) := by have := hcell (k * 5 + 3) (by omega); rw [q3, Nat.zero_add] at this; exact this
    have k4 : w4.cell? ⟨B, k * 5 + 4, none⟩ = some (.int .i64 s[k].2.2.2.2) := by have := hcell (k * 5 + 4) (by omega); rw [q4, Nat.zero_add] at this; exact this
    clear hcell q0 q1 q2 q3 q4 hr4
    generalize s[k] = f at *
    obtain ⟨f0, f1, f2, f3, f4⟩ := f
    have hl4 := hO4.own HL3.out (by omega) (by simp; omega)
    have r0 := hl4.cell 0
    have r1 := hl4.cell 1
    have r2 := hl4.cell 2
    have r3 := hl4.cell 3
    have r4 := hl4.cell 4
    have rf := hl4.frozen
    have rl := hl4.lt
    simp only [List.getElem?_cons_zero, List.getElem?_cons_succ] at r0 r1 r2 r3 r4
    have HC4 := Lib.hid hc4
    have HO4 := Lib.hid (Only.trans HO3.out hO4 (by omega) (fun x hx => hx))
    have HIN4 := Lib.hid hin
    clear hc4 hO4 hl4 hin hsl
    have kk : (k : Int) < 4 := by omega
    go_wp2
    refine bodyPost_ret (v := vSample f0 f1 f2 f3 f4) (by simp [results, Try.results99, go_sem, *]) rfl ?_
    refine ⟨f0, f1, f2, f3, f4, rfl, HIN4.out, ?_, ?_⟩
    · exact (by repeat (first | (with_reducible exact HC4.out) | (with_reducible refine Cur.drew ?_) | (with_reducible refine Cur.drewN ?_ _) | ((with_reducible refine Cur.far ?_ ?_ _); rotate_left; (first | omega | (simp <;> omega)))))
    · exact (by repeat (first | (with_reducible exact HO4.out) | (with_reducible refine Only.drew ?_) | (with_reducible refine Only.drewN ?_ _) | ((with_reducible refine Only.up ?_ ?_ _); rotate_left; (first | omega | (simp <;> omega)))))
set_option maxHeartbeats 4000000 in
theorem S_makeCamera {c : Nat} {A : Option Addr} {l : List Int} (w : World) (hl : l.length ≤ 1048576) (h : RS w 1 A l.length c (u8s l)) :
    Calls Try.prog 23 #[.slice A l.length c] w fun e w' => (∃ (a b : Nat) (x y : Int) (f : Bool) (u v : Int), e = .returned (vCamera a b x y f u v) ∧ (2 ≤ a ∧ a ≤ 5) ∧ (2 ≤ b ∧ b ≤ 5) ∧ validCam a b x y u v = true) ∧ Below w.heap.size w w' := by
  have HR := Lib.hid h
  clear h
  have HK : Hid (Own (w.alloc (.cells #[.int .i64 0, .int .i64 0, .int .i64 0, .int .i64 0, .bool false, .int .i64 0, .int .i64 0] 45)) w.heap.size 45 [.int .i64 0, .int .i64 0, .int .i64 0, .int .i64 0, .bool false, .int .i64 0, .int .i64 0]) := Own.new _ _ _
  go_enter Try.func23, Try.ntmps23
  go_wp2_with fail
  refine (S_newCur _ hl (HR.out.alloc _)).mono ?_
  rintro e w1 ⟨g, rfl, hg, hc, hb⟩
  (try simp at hg)
  have hz1 := hb.size
  (try simp at hz1)
  have HC := Lib.hid hc
  have HK1 := Lib.hid (HK.out.step hb)
  have HB := Lib.hid (Below.trans (Below.alloc (Below.refl w.heap.size w) (Nat.le_refl _) _) (hb.mono (by simp)))
  clear hc hb
  go_wp2_with fail
  refine (S_drawCamera _ HC.out).mono ?_
  rintro e w2 ⟨a, b, x, y, e, u, v, rfl, ha, hb, hv, hc, hO⟩
  have hz2 := hO.size
  have hk2 := hO.own HK1.out (by omega) (by simp; omega)
  have q0 := hk2.cell 0
  have q1 := hk2.cell 1
  have q2 := hk2.cell 2
  have q3 := hk2.cell 3
  have q4 := hk2.cell 4
  have q5 := hk2.cell 5
  have q6 := hk2.cell 6
  have qf := hk2.frozen
  simp only [List.getElem?_cons_zero, List.getElem?_cons_succ] at q0 q1 q2 q3 q4 q5 q6
  have HO := Lib.hid (Below.trans HB.out (hO.below (by omega) (fun x hx => by simp at hx; omega)))
  clear hc hO hk2
  go_wp2
  refine bodyPost_ret (v := vCamera a b x y e u v) (by simp [results, Try.results23, go_sem, *]) rfl ?_
  exact ⟨⟨a, b, x, y, e, u, v, rfl, ha, hb, hv⟩, (by repeat (first | (with_reducible exact Below.refl _ _) | (with_reducible exact HO.out) | (with_reducible assumption) | ((with_reducible refine Below.alloc ?_ ?_ _); rotate_left; (first | omega | (simp <;> omega))) | ((with_reducible refine Below.setCell ?_ ?_ _); rotate_left; (first | omega | (simp <;> omega))) | (with_reducible refine below_drewN ?_ _) | (with_reducible refine Below.drew ?_) | ((with_reducible refine Below.step (by assumption) ?_ ?_); rotate_left; (first | omega | (simp <;> omega)))))⟩
set_option maxHeartbeats 4000000 in
theorem S_makeFilter {c : Nat} {A : Option Addr} {l : List Int} (w : World) (hl : l.length ≤ 1048576) (h : RS w 1 A l.length c (u8s l)) :
    Calls Try.prog 24 #[.slice A l.length c] w fun e w' => (∃ k r : Int, e = .returned (vFilter k r) ∧ validF k r = true) ∧ Below w.heap.size w w' := by
  have HR := Lib.hid h
  clear h
  have HK : Hid (Own (w.alloc (.cells #[.int .i64 0, .int .i64 0] 48)) w.heap.size 48 [.int .i64 0, .int .i64 0]) := Own.new _ _ _
  go_enter Try.func24, Try.ntmps24
  go_wp2_with fail
  refine (S_newCurN (n := 8) _ hl (by omega) (HR.out.alloc _)).mono ?_
  rintro e w1 ⟨g, rfl, hg, hc, hb⟩
  (try simp at hg)
  have hz1 := hb.size
  (try simp at hz1)
  have HC := Lib.hid hc
  have HK1 := Lib.hid (HK.out.step hb)
  have HB := Lib.hid (Below.trans (Below.alloc (Below.refl w.heap.size w) (Nat.le_refl _) _) (hb.mono (by simp)))
  clear hc hb
  go_wp2_with fail
  refine (S_drawFilter _ HC.out).mono ?_
  rintro e w2 ⟨k, r, rfl, hv, hc, hO⟩
  have hz2 := hO.size
  have hk2 := hO.own HK1.out (by omega) (by simp; omega)
  have q0 := hk2.cell 0
  have q1 := hk2.cell 1
  have qf := hk2.frozen
  simp only [List.getElem?_cons_zero, List.getElem?_cons_succ] at q0 q1
  have HO := Lib.hid (Below.trans HB.out (hO.below (by omega) (fun x hx => by simp at hx; omega)))
  clear hc hO hk2
  go_wp2
  refine bodyPost_ret (v := vFilter k r) (by simp [results, Try.results24, go_sem, *]) rfl ?_
  exact ⟨⟨k, r, rfl, hv⟩, (by repeat (first | (with_reducible exact Below.refl _ _) | (with_reducible exact HO.out) | (with_reducible assumption) | ((with_reducible refine Below.alloc ?_ ?_ _); rotate_left; (first | omega | (simp <;> omega))) | ((with_reducible refine Below.setCell ?_ ?_ _); rotate_left; (first | omega | (simp <;> omega))) | (with_reducible refine below_drewN ?_ _) | (with_reducible refine Below.drew ?_) | ((with_reducible refine Below.step (by assumption) ?_ ?_); rotate_left; (first | omega | (simp <;> omega)))))⟩
set_option maxHeartbeats 8000000 in
theorem S_makeSample {a b : Nat} {x y u v : Int} {e : Bool} {c : Nat} {A : Option Addr} {l : List Int} (w : World) (hl : l.length ≤ 1048576) (h : RS w 1 A l.length c (u8s l)) (hv : validCam a b x y u v = true) :
    Calls Try.prog 25 #[.slice A l.length c, vCamera a b x y e u v] w fun r w' => (∃ p q t s z : Int, r = .returned (vSample p q t s z) ∧ ((0 ≤ p ∧ p ≤ a * 16 - 1) ∧ 0 ≤ q ∧ q ≤ b * 16 - 1)) ∧ Below w.heap.size w w' := by
  have HR := Lib.hid (h.alloc (.cells #[.int .i64 a, .int .i64 b, .int .i64 x, .int .i64 y, .bool e, .int .i64 u, .int .i64 v] 45))
  have HR2 := Lib.hid (HR.out.alloc (.cells #[.int .i64 0, .int .i64 0, .int .i64 0, .int .i64 0, .int .i64 0] 51))
  have HV := Lib.hid hv
  have HB : Hid (Below w.heap.size w ((w.alloc (.cells #[.int .i64 a, .int .i64 b, .int .i64 x, .int .i64 y, .bool e, .int .i64 u, .int .i64 v] 45)).alloc (.cells #[.int .i64 0, .int .i64 0, .int .i64 0, .int .i64 0, .int .i64 0] 51))) := Below.alloc (Below.alloc (Below.refl _ _) (Nat.le_refl _) _) (by simp) _
  have HK : Hid (Box ((w.alloc (.cells #[.int .i64 a, .int .i64 b, .int .i64 x, .int .i64 y, .bool e, .int .i64 u, .int .i64 v] 45)).alloc (.cells #[.int .i64 0, .int .i64 0, .int .i64 0, .int .i64 0, .int .i64 0] 51)) w.heap.size [.int .i64 a, .int .i64 b, .int .i64 x, .int .i64 y, .bool e, .int .i64 u, .int .i64 v]) := Box.of_own (Own.alloc (Own.new w 45 #[.int .i64 a, .int .i64 b, .int .i64 x, .int .i64 y, .bool e, .int .i64 u, .int .i64 v]) _)
  have HL : Hid (Own ((w.alloc (.cells #[.int .i64 a, .int .i64 b, .int .i64 x, .int .i64 y, .bool e, .int .i64 u, .int .i64 v] 45)).alloc (.cells #[.int .i64 0, .int .i64 0, .int .i64 0, .int .i64 0, .int .i64 0] 51)) (w.heap.size + 1) 51 [.int .i64 0, .int .i64 0, .int .i64 0, .int .i64 0, .int .i64 0]) := Own.at_new (cs := #[_, _, _, _, _]) (by simp)
  have HN7 : Hid (∀ wx, RS wx 1 A l.length c (u8s l) → Calls Try.prog 90 #[.slice A l.length c, .int .i64 7] wx (NewCur wx A c l)) := fun wx h => S_newCurN (n := 7) wx hl (by omega) h
  clear h hv HR
  go_enter Try.func25, Try.ntmps25
  go_wp2_with fail
  generalize hw0 : (w.alloc _).alloc _ = w0 at *
  have hz0 : w0.heap.size = w.heap.size + 1 + 1 := by rw [← hw0]; simp
  clear hw0
  obtain ⟨z0, c0, c1, c2, c3, c4, c5, c6⟩ := HK.out.open7
  have r0 := HL.out.cell 0
  have r1 := HL.out.cell 1
  have r2 := HL.out.cell 2
  have r3 := HL.out.cell 3
  have r4 := HL.out.cell 4
  have rf := HL.out.frozen
  simp only [List.getElem?_cons_zero, List.getElem?_cons_succ] at r0 r1 r2 r3 r4
  clear z0
  go_region_held3 (fun w' => w'.cell? ⟨w.heap.size, 0, none⟩ = some (.int .i64 a) ∧ w'.cell? ⟨w.heap.size, 1, none⟩ = some (.int .i64 b) ∧ w'.cell? ⟨w.heap.size, 2, none⟩ = some (.int .i64 x) ∧ w'.cell? ⟨w.heap.size, 3, none⟩ = some (.int .i64 y) ∧ w'.cell? ⟨w.heap.size, 4, none⟩ = some (.bool e) ∧ w'.cell? ⟨w.heap.size, 5, none⟩ = some (.int .i64 u) ∧ w'.cell? ⟨w.heap.size, 6, none⟩ = some (.int .i64 v))
    (first | ((try dsimp only); refine ⟨?_, ?_, ?_, ?_, ?_, ?_, ?_⟩ <;> (go_simp; done)) | go_keep)
    (first | (go_at_call 90; (with_reducible refine (HN7.out _ (by repeat (first | (with_reducible exact HR2.out) | (with_reducible refine RS.drew ?_) | (with_reducible refine RS.drewN ?_ _)))).mono ?_); rintro e1 w1 ⟨g, rfl, hg, hc1, hb1⟩; have hz1 := hb1.size; (try simp at hz1); (try simp at hg); have HC1 := Lib.hid hc1; have HB1 : Hid (Below w0.heap.size w0 w1) := Lib.hid (by first | (with_reducible exact hb1) | (with_reducible exact Below.undrewS hb1) | (with_reducible exact Below.undrew hb1) | (with_reducible exact Below.undrewN hb1)); have cc1 := fun o => hb1.cell (p := ⟨w.heap.size, o, none⟩) (by first | omega | (simp <;> omega)); have dd1 := fun o => hb1.cell (p := ⟨w.heap.size + 1, o, none⟩) (by first | omega | (simp <;> omega)); have df1 := fun o => hb1.frozen (p := ⟨w.heap.size + 1, o, none⟩) (by first | omega | (simp <;> omega)); clear hc1 hb1) | (go_at_call 99; (with_reducible refine (S_drawSample (g := g) (A := A) (c := c) (l := l) _ HV.out (by repeat (first | (with_reducible exact HC1.out) | (with_reducible refine Cur.drew ?_) | (with_reducible refine Cur.drewN ?_ _)))).mono ?_); rintro e2 w2 ⟨p, q, t, s, z, rfl, hpq, hc2, hO2⟩; have hz2 := hO2.size; (try simp at hz2); have HPQ := Lib.hid hpq; have HO2 : Hid (Only w1.heap.size [g] w1 w2) := Lib.hid (by first | (with_reducible exact hO2) | (with_reducible exact Only.undrewS hO2) | (with_reducible exact Only.undrew hO2) | (with_reducible exact Only.undrewN hO2)); have cc2 := (hO2.cell w.heap.size (by first | omega | (simp <;> omega)) (by simp; omega)).1; have dd2 := (hO2.cell (w.heap.size + 1) (by first | omega | (simp <;> omega)) (by simp; omega)); clear hc2 hO2) | fail)
  all_goals
    have HB2 := Lib.hid (Below.trans HB.out (Below.trans (HB1.out.mono (show w.heap.size ≤ w0.heap.size by omega)) (HO2.out.below (show w.heap.size ≤ w1.heap.size by omega) (fun x hx => by simp at hx; omega))))
    go_wp2
    refine bodyPost_ret (v := vSample p q t s z) (by simp [results, Try.results25, go_sem, *]) rfl ?_
    exact ⟨⟨p, q, t, s, z, rfl, HPQ.out⟩, (by repeat (first | (with_reducible exact Below.refl _ _) | (with_reducible exact HB2.out) | (with_reducible assumption) | ((with_reducible refine Below.alloc ?_ ?_ _); rotate_left; (first | omega | (simp <;> omega))) | ((with_reducible refine Below.setCell ?_ ?_ _); rotate_left; (first | omega | (simp <;> omega))) | (with_reducible refine below_drewN ?_ _) | (with_reducible refine Below.drew ?_) | ((with_reducible refine Below.step (by assumption) ?_ ?_); rotate_left; (first | omega | (simp <;> omega)))))⟩
end Go.Proofs.Ythfnldjldfkmnaa
