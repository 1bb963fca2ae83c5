/- A drawn buffer. -/
import Derived.Test.YthfnldjldfkmnaaAccLaw
import Derived.Test.YthfnldjldfkmnaaDraws
import Derived.Test.YthfnldjldfkmnaaAddSmpS
import Derived.Test.YthfnldjldfkmnaaNewRows
import Derived.Test.YthfnldjldfkmnaaPhaseN
import Derived.Deep.RegionHeld3
namespace Go.Proofs.Ythfnldjldfkmnaa
open Go.RowKit
set_option linter.unusedVariables false
set_option maxRecDepth 100000
theorem S_addSmall {a b N : Nat} {k r x y color B : Int} {P1 P2 : Option Addr} {k1 k2 : Nat} {s t : List Int} (w : World) (ha : 1 ≤ a ∧ a ≤ 12) (hb : 1 ≤ b ∧ b ≤ 12) (hN : a * b = N) (hs : s.length = N) (ht : t.length = N) (h : smallA B s t) (hB : B + 6400 ≤ 1000000000) (hf : validF k r = true) (hc : 0 ≤ color ∧ color ≤ 256) (hx : 0 ≤ x ∧ x ≤ a * 16 - 1) (hy : 0 ≤ y ∧ y ≤ b * 16 - 1) (h1 : RS w 1 P1 N k1 (ints s)) (h2 : RS w 1 P2 N k2 (ints t)) :
    Calls Try.prog 36 #[vAccum a b (.slice P1 N k1) (.slice P2 N k2), vFilter k r, vSample x y 0 0 0, .int .i64 color] w fun e w' => ∃ (Q1 Q2 : Option Addr) (j1 j2 : Nat) (s' t' : List Int), e = .returned (.tuple #[vAccum a b (.slice Q1 N j1) (.slice Q2 N j2), .bool true]) ∧ s'.length = N ∧ t'.length = N ∧ smallA (B + 6400) s' t' ∧ RS w' 1 Q1 N j1 (ints s') ∧ RS w' 1 Q2 N j2 (ints t') ∧ (∀ x, x ∈ gOf Q1 → w.heap.size ≤ x) ∧ (∀ x, x ∈ gOf Q2 → w.heap.size ≤ x) ∧ Below w.heap.size w w' := by
  have hab : a * b ≤ 12 * 12 := Nat.mul_le_mul ha.2 hb.2
  obtain ⟨e1, e2, e3⟩ := add_fine ha hb (by omega) (by omega) h hB hf hc hx hy
  have h1' : RS w 1 P1 s.length k1 (ints s) := by rw [hs]; exact h1
  have h2' : RS w 1 P2 t.length k2 (ints t) := by rw [ht]; exact h2
  have := S_AddSample (W := a) (H := b) (k := k) (r := r) (x := x) (y := y) (tt := 0) (u := 0) (v := 0) (color := color) w (by omega) (by omega) h1' h2'
  rw [e1, e2, e3, hs, ht] at this
  refine this.mono ?_
  rintro e w' ⟨Q1, j1, Q2, j2, rfl, u1, u2, ge1, ge2, hd, hb9⟩
  have hsm := small_add (a := a) (k := k) (r := r) (x := x) (y := y) (color := color) h hc
  rw [hs, ht] at hsm
  exact ⟨Q1, Q2, j1, j2, _, _, rfl, by rw [sums_len, hs], by rw [wts_len, ht], hsm, u1.rs, u2.rs, ge1, ge2, hb9⟩
/-- A small buffer and a filter. -/
def DrawnAccum (w : World) (e : Ending) (w' : World) : Prop := ∃ (a b : Nat) (k r : Int) (s t : List Int) (P1 P2 : Option Addr) (k1 k2 : Nat), e = .returned (.tuple #[vAccum a b (.slice P1 s.length k1) (.slice P2 t.length k2), vFilter k r]) ∧ (2 ≤ a ∧ a ≤ 5) ∧ (2 ≤ b ∧ b ≤ 5) ∧ s.length = a * b ∧ t.length = a * b ∧ smallA 19200 s t ∧ validF k r = true ∧ RS w' 1 P1 s.length k1 (ints s) ∧ RS w' 1 P2 t.length k2 (ints t) ∧ (∀ x, x ∈ gOf P1 → w.heap.size ≤ x) ∧ (∀ x, x ∈ gOf P2 → w.heap.size ≤ x)
set_option maxHeartbeats 16000000 in
theorem S_drawAccum {g c : Nat} {A : Option Addr} {l : List Int} (w : World) (h : Cur 200 w g A c l) :
    Calls Try.prog 109 #[.pointer (some ⟨g, 0, none⟩)] w fun e w' => DrawnAccum w e w' ∧ Cur 200 w' g A c l ∧ Only w.heap.size [g] w w' := by
  have hgl := h.lt
  have HC := Lib.hid h
  clear h
  have HK : Hid (Own ((w.alloc (.cells #[.int .i64 0, .int .i64 0, .slice none 0 0, .slice none 0 0] 61)).alloc (.cells #[.int .i64 0, .int .i64 0] 48)) w.heap.size 61 [.int .i64 0, .int .i64 0, .slice none 0 0, .slice none 0 0]) := Own.alloc (Own.new _ _ _) _
  have HL : Hid (Own ((w.alloc (.cells #[.int .i64 0, .int .i64 0, .slice none 0 0, .slice none 0 0] 61)).alloc (.cells #[.int .i64 0, .int .i64 0] 48)) (w.heap.size + 1) 48 [.int .i64 0, .int .i64 0]) := Own.at_new (cs := #[_, _]) (by simp)
  go_enter Try.func109, Try.ntmps109
  go_wp2_with fail
  refine (S_drawCamera _ ((HC.out.alloc _).alloc _)).mono ?_
  rintro e w1 ⟨a, b, cx, cy, ce, cu, cv, rfl, ⟨a1, a2⟩, ⟨b1, b2⟩, hvc, hc1, hO1⟩
  have hz1 := hO1.size
  (try simp at hz1)
  have HC1 := Lib.hid hc1
  have HO1 := Lib.hid (Only.trans (Only.alloc (Only.alloc (Only.refl w.heap.size [g] w) (Nat.le_refl _) _) (by simp) _) hO1 (by simp; omega) (fun x hx => hx))
  have HK1 := Lib.hid (hO1.own HK.out (by simp; omega) (by simp; omega))
  have HL1 := Lib.hid (hO1.own HL.out (by simp) (by simp; omega))
  have hab : a * b ≤ 5 * 5 := Nat.mul_le_mul a2 b2
  have hab1 : 1 ≤ a * b := Nat.mul_pos (by omega) (by omega)
  clear hc1 hO1
  go_wp2_with fail
  refine (S_NewAccum (n := a * b) _ (fun _ => ⟨by simp, by omega⟩)).mono ?_
  rintro e w2 ⟨hb2, h⟩
  rcases h with ⟨hf, _⟩ | ⟨_, g1, g2, rfl, o1, o2, ge1, ge2, hne⟩
  · rw [hvc] at hf; cases hf
  have hz2 := hb2.size
  have HC2 := Lib.hid (HC1.out.step hb2)
  have HO2 := Lib.hid (Only.trans HO1.out (Only.of_below hb2 [g]) (by omega) (fun x hx => hx))
  have HK2 := Lib.hid (HK1.out.step hb2)
  have HL2 := Lib.hid (HL1.out.step hb2)
  have hl1 := o1.lt
  have hl2 := o2.lt
  have R1 : Hid (RS w2 1 (some ⟨g1, 0, none⟩) (a * b) (a * b) (ints (List.replicate (a * b) 0))) := o1.rs (by simp) (by omega)
  have R2 : Hid (RS w2 1 (some ⟨g2, 0, none⟩) (a * b) (a * b) (ints (List.replicate (a * b) 0))) := o2.rs (by simp) (by omega)
  clear hb2 o1 o2 hvc
  go_wp2_with fail
  refine (S_drawFilter _ (HC2.out.alloc _)).mono ?_
  rintro e w3 ⟨k, r, rfl, hvf, hc3, hO3⟩
  have hz3 := hO3.size
  (try simp at hz3)
  have HX3 : Hid (Own w3 w2.heap.size 61 [.int .i64 a, .int .i64 b, .slice (some ⟨g1, 0, none⟩) (a * b) (a * b), .slice (some ⟨g2, 0, none⟩) (a * b) (a * b)]) := Lib.hid (hO3.own (show Own _ _ 61 [.int .i64 a, .int .i64 b, .slice (some ⟨g1, 0, none⟩) (a * b) (a * b), .slice (some ⟨g2, 0, none⟩) (a * b) (a * b)] from Own.new _ _ #[_, _, _, _]) (by simp) (by simp; omega))
  have HC3 := Lib.hid hc3
  have HO3 := Lib.hid (Only.trans (Only.alloc HO2.out (by omega) _) hO3 (by simp; omega) (fun x hx => hx))
  have HK3 := Lib.hid (hO3.own (HK2.out.alloc _) (by simp; omega) (by simp; omega))
  have HL3 := Lib.hid (hO3.own (HL2.out.alloc _) (by simp; omega) (by simp; omega))
  have R13 := Lib.hid (RS.only (R1.out.alloc _) hO3 (Nat.le_refl _) (fun _ x hx => by simp [gOf] at hx ⊢; omega))
  have R23 := Lib.hid (RS.only (R2.out.alloc _) hO3 (Nat.le_refl _) (fun _ x hx => by simp [gOf] at hx ⊢; omega))
  clear hc3 hO3
  generalize w2.heap.size = B4 at *
  go_wp2_with fail
  refine (S_below (n := 4) _ (HC3.out.alloc _) (by omega)).mono ?_
  rintro e w4 ⟨m, rfl, m0, m1, hc4, hO4⟩
  have hz4 := hO4.size
  (try simp at hz4)
  obtain ⟨mn, rfl⟩ := Int.eq_ofNat_of_zero_le m0
  have HF4 : Hid (Own w4 w3.heap.size 48 [.int .i64 k, .int .i64 r]) := Lib.hid (hO4.own (show Own _ _ 48 [.int .i64 k, .int .i64 r] from Own.new _ _ #[_, _]) (by simp) (by simp; omega))
  have HX4 := Lib.hid (hO4.own (HX3.out.alloc _) (by simp; omega) (by simp; omega))
  have HC4 := Lib.hid hc4
  have HO4 := Lib.hid (Only.trans (Only.alloc HO3.out (by omega) _) hO4 (by simp; omega) (fun x hx => hx))
  have HK4 := Lib.hid (hO4.own (HK3.out.alloc _) (by simp; omega) (by simp; omega))
  have HL4 := Lib.hid (hO4.own (HL3.out.alloc _) (by simp; omega) (by simp; omega))
  have R14 := Lib.hid (RS.only (R13.out.alloc _) hO4 (Nat.le_refl _) (fun _ x hx => by simp [gOf] at hx ⊢; omega))
  have R24 := Lib.hid (RS.only (R23.out.alloc _) hO4 (Nat.le_refl _) (fun _ x hx => by simp [gOf] at hx ⊢; omega))
  clear hc4 hO4
  generalize w3.heap.size = B6 at *
  go_wp2_with fail
  generalize hN : a * b = N at *
  have HNN := Lib.hid hN
  clear hN
  have HSM : Hid (smallA (((mn - mn : Nat) : Int) * 6400) (List.replicate N 0) (List.replicate N 0)) := fun n h1 h2 => by simp
  have HP1 : Hid (∀ x, x ∈ gOf (some (Addr.mk g1 0 none)) → w.heap.size + 2 ≤ x ∧ x ≠ B4) := fun x hx => by simp [gOf] at hx; omega
  have HP2 : Hid (∀ x, x ∈ gOf (some (Addr.mk g2 0 none)) → w.heap.size + 2 ≤ x ∧ x ≠ B4) := fun x hx => by simp [gOf] at hx; omega
  go_loopw [7] (fun i wr => ∃ (n : Nat) (s t : List Int) (P1 P2 : Option Addr) (k1 k2 : Nat), i = .int .i64 n ∧ n ≤ mn ∧ s.length = N ∧ t.length = N ∧ smallA (((mn - n : Nat) : Int) * 6400) s t ∧ Own wr B4 61 [.int .i64 a, .int .i64 b, .slice P1 N k1, .slice P2 N k2] ∧ Own wr B6 48 [.int .i64 k, .int .i64 r] ∧ Own wr w.heap.size 61 [.int .i64 0, .int .i64 0, .slice none 0 0, .slice none 0 0] ∧ Own wr (w.heap.size + 1) 48 [.int .i64 0, .int .i64 0] ∧ RS wr 1 P1 N k1 (ints s) ∧ RS wr 1 P2 N k2 (ints t) ∧ (∀ x, x ∈ gOf P1 → w.heap.size + 2 ≤ x ∧ x ≠ B4) ∧ (∀ x, x ∈ gOf P2 → w.heap.size + 2 ≤ x ∧ x ≠ B4) ∧ Cur 200 wr g A c l ∧ Only w.heap.size [g] w wr) (fun i _ => (intOf i).toNat)
  case atStart => exact ⟨mn, _, _, _, _, _, _, rfl, Nat.le_refl _, by simp, by simp, HSM.out, HX4.out, HF4.out, HK4.out, HL4.out, R14.out, R24.out, HP1.out, HP2.out, HC4.out, HO4.out⟩
  case round =>
    obtain ⟨n, s, t, P1, P2, k1, k2, rfl, hn, hs, ht, hsm, ox, of, ok, ol, r1, r2, hp1, hp2, hc, hO⟩ := hrel
    have hz := hO.size
    have e0 := ox.cell 0
    have e1 := ox.cell 1
    have e2 := ox.cell 2
    have e3 := ox.cell 3
    have e4 := of.cell 0
    have e5 := of.cell 1
    have fx := ox.frozen
    simp only [List.getElem?_cons_zero, List.getElem?_cons_succ] at e0 e1 e2 e3 e4 e5
    have lx := ox.lt
    have lf := of.lt
    have HX0 := Lib.hid ox.drew
    have HF0 := Lib.hid of.drew
    have HK0 := Lib.hid ok.drew
    have HL0 := Lib.hid ol.drew
    have R10 := Lib.hid r1.drew
    have R20 := Lib.hid r2.drew
    have HG1 := Lib.hid hp1
    have HG2 := Lib.hid hp2
    have HC0 := Lib.hid hc.drew
    have HO0 := Lib.hid hO.drew
    have HSS := Lib.hid (And.intro hs (And.intro ht hsm))
    have HOK := Lib.hid ok
    have HOL := Lib.hid ol
    have HRR := Lib.hid (And.intro r1 r2)
    have HCr := Lib.hid hc
    have HOr := Lib.hid hO
    clear ox of ok ol r1 r2 hp1 hp2 hc hO hs ht hsm
    by_cases hlt : 0 < n
    · have i1 : (0 : Int) < n := by omega
      have y0' : IntKind.i64.wrap ((n : Int) - 1) = (n : Int) - 1 := IntWalk.i64_in _ (by omega)
      have y1' : IntKind.i64.wrap ((a : Int) * 16) = (a : Int) * 16 := IntWalk.i64_in _ (by omega)
      have y2' : IntKind.i64.wrap ((b : Int) * 16) = (b : Int) * 16 := IntWalk.i64_in _ (by omega)
      go_wp2_with fail
      refine wp_region_N (S := (fun w' => w'.cell? ⟨B4, 0, none⟩ = some (.int .i64 a) ∧ w'.cell? ⟨B4, 1, none⟩ = some (.int .i64 b) ∧ w'.cell? ⟨B4, 2, none⟩ = some (.slice P1 N k1) ∧ w'.cell? ⟨B4, 3, none⟩ = some (.slice P2 N k2) ∧ w'.cell? ⟨B6, 0, none⟩ = some (.int .i64 k) ∧ w'.cell? ⟨B6, 1, none⟩ = some (.int .i64 r))) 19 (by kernel_rfl) (by (try dsimp only); refine ⟨?_, ?_, ?_, ?_, ?_, ?_⟩ <;> (go_simp; done)) (fun hHeld => ?_)
      refine wpAnyN_take (i := 0) (v := ?_) rfl (by kernel_rfl) (by kernel_rfl) (by kernel_rfl) (by kernel_rfl) (fun _ _ _ h => h) (Or.inl ⟨by rfl, ?_⟩) (by assumption) ?_; rotate_left; focus (intro w hSw; (try dsimp only at hSw); go_simp; try with_reducible rfl)
      refine wpAnyN_take (i := 1) (v := ?_) rfl (by kernel_rfl) (by kernel_rfl) (by kernel_rfl) (by kernel_rfl) (fun _ _ _ h => h) (Or.inl ⟨by rfl, ?_⟩) (by assumption) ?_; rotate_left; focus (intro w hSw; (try dsimp only at hSw); go_simp; try with_reducible rfl)
      refine wpAnyN_take (i := 2) (v := ?_) rfl (by kernel_rfl) (by kernel_rfl) (by kernel_rfl) (by kernel_rfl) (fun _ _ _ h => h) (Or.inl ⟨by rfl, ?_⟩) (by assumption) ?_; rotate_left; focus (intro w hSw; (try dsimp only at hSw); go_simp; try with_reducible rfl)
      refine wpAnyN_take (i := 3) (v := ?_) rfl (by kernel_rfl) (by kernel_rfl) (by kernel_rfl) (by kernel_rfl) (fun _ _ _ h => h) (Or.inl ⟨by rfl, ?_⟩) (by assumption) ?_; rotate_left; focus (intro w hSw; (try dsimp only at hSw); go_simp; try with_reducible rfl)
      refine wpAnyN_take (i := 4) (v := ?_) rfl (by kernel_rfl) (by kernel_rfl) (by kernel_rfl) (by kernel_rfl) (fun _ _ _ h => h) (Or.inl ⟨by rfl, ?_⟩) (by assumption) ?_; rotate_left; focus (intro w hSw; (try dsimp only at hSw); go_simp; try with_reducible rfl)
      refine wpAnyN_take (i := 5) (v := ?_) rfl (by kernel_rfl) (by kernel_rfl) (by kernel_rfl) (by kernel_rfl) (fun _ _ _ h => h) (Or.inl ⟨by rfl, ?_⟩) (by assumption) ?_; rotate_left; focus (intro w hSw; (try dsimp only at hSw); go_simp; try with_reducible rfl)
      refine wpAnyN_take (i := 7) (v := ?_) rfl (by kernel_rfl) (by kernel_rfl) (by kernel_rfl) (by kernel_rfl) (fun _ _ _ h => h) (Or.inl ⟨by rfl, ?_⟩) (by assumption) ?_; rotate_left; focus (intro w hSw; (try dsimp only at hSw); go_simp; try with_reducible rfl)
      refine wpAnyN_take (i := 8) (v := ?_) rfl (by kernel_rfl) (by kernel_rfl) (by kernel_rfl) (by kernel_rfl) (fun _ _ _ h => h) (Or.inl ⟨by rfl, ?_⟩) (by assumption) ?_; rotate_left; focus (intro w hSw; (try dsimp only at hSw); go_simp; try with_reducible rfl)
      refine wpAnyN_take (i := 9) (v := ?_) rfl (by kernel_rfl) (by kernel_rfl) (by kernel_rfl) (by kernel_rfl) (fun _ _ _ h => h) (Or.inl ⟨by rfl, ?_⟩) (by assumption) ?_; rotate_left; focus (intro w hSw; (try dsimp only at hSw); go_simp; try with_reducible rfl)
      refine wpAnyN_take (i := 10) (v := ?_) rfl (by kernel_rfl) (by kernel_rfl) (by kernel_rfl) (by kernel_rfl) (fun _ _ _ h => h) (Or.inl ⟨by rfl, ?_⟩) (by assumption) ?_; rotate_left; focus (intro w hSw; (try dsimp only at hSw); go_simp; try with_reducible rfl)
      refine wpAnyN_take (i := 13) (v := ?_) rfl (by kernel_rfl) (by kernel_rfl) (by kernel_rfl) (by kernel_rfl) (fun _ _ _ h => h) (Or.inl ⟨by rfl, ?_⟩) (by assumption) ?_; rotate_left; focus (intro w hSw; (try dsimp only at hSw); go_simp; try with_reducible rfl)
      refine wpAnyN_one (i := 6) rfl (by kernel_rfl) (fun K6 hK6 => ?_)
      go_simp
      refine (S_below (n := (a : Int) * 16) _ HC0.out (by omega)).mono ?_
      rintro e x1 ⟨v1, rfl, p1, p2, hcx1, hOx1⟩
      have hzx1 := hOx1.size
      (try simp at hzx1)
      have hX1 := hOx1.own HX0.out (by first | omega | (simp <;> omega)) (by simp; omega)
      have hF1 := hOx1.own HF0.out (by first | omega | (simp <;> omega)) (by simp; omega)
      have HK1 := Lib.hid (hOx1.own HK0.out (by first | omega | (simp <;> omega)) (by simp; omega))
      have HL1 := Lib.hid (hOx1.own HL0.out (by first | omega | (simp <;> omega)) (by simp; omega))
      have c10 := hX1.cell 0
      have c11 := hX1.cell 1
      have c12 := hX1.cell 2
      have c13 := hX1.cell 3
      have c14 := hF1.cell 0
      have c15 := hF1.cell 1
      simp only [List.getElem?_cons_zero, List.getElem?_cons_succ] at c10 c11 c12 c13 c14 c15
      have HX1 := Lib.hid hX1
      have HF1 := Lib.hid hF1
      have HC1 := Lib.hid hcx1
      have HO1 := Lib.hid (Only.trans HO0.out hOx1 (by first | omega | (simp <;> omega)) (fun x hx => hx))
      have R11 := Lib.hid (RS.only R10.out hOx1 (Nat.le_refl _) (fun _ y hy => by have := HG1.out y hy; simp; omega))
      have R21 := Lib.hid (RS.only R20.out hOx1 (Nat.le_refl _) (fun _ y hy => by have := HG2.out y hy; simp; omega))
      clear hcx1 hOx1 hX1 hF1
      dsimp only
      refine hK6.out _ _ (fun _ => (by (try dsimp only); refine ⟨?_, ?_, ?_, ?_, ?_, ?_⟩ <;> (go_simp; done))) (fun hHeld6 => ?_)
      have hXX6 := hHeld6 (by decide)
      refine wpAnyN_one (i := 11) rfl (by kernel_rfl) (fun K11 hK11 => ?_)
      go_simp
      refine (S_below (n := (b : Int) * 16) _ HC1.out (by omega)).mono ?_
      rintro e x2 ⟨v2, rfl, p3, p4, hcx2, hOx2⟩
      have hzx2 := hOx2.size
      (try simp at hzx2)
      have hX2 := hOx2.own HX1.out (by first | omega | (simp <;> omega)) (by simp; omega)
      have hF2 := hOx2.own HF1.out (by first | omega | (simp <;> omega)) (by simp; omega)
      have HK2 := Lib.hid (hOx2.own HK1.out (by first | omega | (simp <;> omega)) (by simp; omega))
      have HL2 := Lib.hid (hOx2.own HL1.out (by first | omega | (simp <;> omega)) (by simp; omega))
      have c20 := hX2.cell 0
      have c21 := hX2.cell 1
      have c22 := hX2.cell 2
      have c23 := hX2.cell 3
      have c24 := hF2.cell 0
      have c25 := hF2.cell 1
      simp only [List.getElem?_cons_zero, List.getElem?_cons_succ] at c20 c21 c22 c23 c24 c25
      have HX2 := Lib.hid hX2
      have HF2 := Lib.hid hF2
      have HC2 := Lib.hid hcx2
      have HO2 := Lib.hid (Only.trans HO1.out hOx2 (by first | omega | (simp <;> omega)) (fun x hx => hx))
      have R12 := Lib.hid (RS.only R11.out hOx2 (Nat.le_refl _) (fun _ y hy => by have := HG1.out y hy; simp; omega))
      have R22 := Lib.hid (RS.only R21.out hOx2 (Nat.le_refl _) (fun _ y hy => by have := HG2.out y hy; simp; omega))
      clear hcx2 hOx2 hX2 hF2
      dsimp only
      refine hK11.out _ _ (fun _ => (by (try dsimp only); refine ⟨?_, ?_, ?_, ?_, ?_, ?_⟩ <;> (go_simp; done))) (fun hHeld11 => ?_)
      have hXX11 := hHeld11 (by decide)
      refine wpAnyN_take (i := 12) (v := ?_) rfl (by kernel_rfl) (by kernel_rfl) (by kernel_rfl) (by kernel_rfl) (fun _ _ _ h => h) (Or.inl ⟨by rfl, ?_⟩) (by assumption) ?_; rotate_left; focus (intro w hSw; (try dsimp only at hSw); go_simp; try with_reducible rfl)
      refine wpAnyN_one (i := 14) rfl (by kernel_rfl) (fun K14 hK14 => ?_)
      go_simp
      refine (S_below4 (n := 257) _ HC2.out (by omega)).mono ?_
      rintro e x3 ⟨v3, rfl, p5, p6, hcx3, hOx3⟩
      have hzx3 := hOx3.size
      (try simp at hzx3)
      have hX3 := hOx3.own HX2.out (by first | omega | (simp <;> omega)) (by simp; omega)
      have hF3 := hOx3.own HF2.out (by first | omega | (simp <;> omega)) (by simp; omega)
      have HK3 := Lib.hid (hOx3.own HK2.out (by first | omega | (simp <;> omega)) (by simp; omega))
      have HL3 := Lib.hid (hOx3.own HL2.out (by first | omega | (simp <;> omega)) (by simp; omega))
      have c30 := hX3.cell 0
      have c31 := hX3.cell 1
      have c32 := hX3.cell 2
      have c33 := hX3.cell 3
      have c34 := hF3.cell 0
      have c35 := hF3.cell 1
      simp only [List.getElem?_cons_zero, List.getElem?_cons_succ] at c30 c31 c32 c33 c34 c35
      have HX3 := Lib.hid hX3
      have HF3 := Lib.hid hF3
      have HC3 := Lib.hid hcx3
      have HO3 := Lib.hid (Only.trans HO2.out hOx3 (by first | omega | (simp <;> omega)) (fun x hx => hx))
      have R13 := Lib.hid (RS.only R12.out hOx3 (Nat.le_refl _) (fun _ y hy => by have := HG1.out y hy; simp; omega))
      have R23 := Lib.hid (RS.only R22.out hOx3 (Nat.le_refl _) (fun _ y hy => by have := HG2.out y hy; simp; omega))
      clear hcx3 hOx3 hX3 hF3
      dsimp only
      refine hK14.out _ _ (fun _ => (by (try dsimp only); refine ⟨?_, ?_, ?_, ?_, ?_, ?_⟩ <;> (go_simp; done))) (fun hHeld14 => ?_)
      have hXX14 := hHeld14 (by decide)
      refine wpAnyN_one (i := 15) rfl (by kernel_rfl) (fun K15 hK15 => ?_)
      go_simp
      refine (S_addSmall (B := (((mn - n : Nat) : Int) * 6400)) _ ⟨by omega, by omega⟩ ⟨by omega, by omega⟩ HNN.out HSS.out.1 HSS.out.2.1 HSS.out.2.2 (by omega) hvf ⟨p5, by omega⟩ ⟨p1, by omega⟩ ⟨p3, by omega⟩ R13.out R23.out).mono ?_
      rintro e x4 ⟨Q1, Q2, j1, j2, s', t', rfl, hs', ht', hsm', r1', r2', ge1, ge2, hb9⟩
      have hzx4 := hb9.size
      have hX4 := HX3.out.step hb9
      have hF4 := HF3.out.step hb9
      have c40 := hX4.cell 0
      have c41 := hX4.cell 1
      have c42 := hX4.cell 2
      have c43 := hX4.cell 3
      have c44 := hF4.cell 0
      have c45 := hF4.cell 1
      have fx4 := hX4.frozen
      simp only [List.getElem?_cons_zero, List.getElem?_cons_succ] at c40 c41 c42 c43 c44 c45
      have HX5 := Lib.hid (show Own ((((x4.setCell ⟨B4, 0, none⟩ (.int .i64 a)).setCell ⟨B4, 1, none⟩ (.int .i64 b)).setCell ⟨B4, 2, none⟩ (.slice Q1 N j1)).setCell ⟨B4, 3, none⟩ (.slice Q2 N j2)) B4 61 [.int .i64 a, .int .i64 b, .slice Q1 N j1, .slice Q2 N j2] from Own.set_ (Own.set_ (Own.set_ (Own.set_ hX4 0 _) 1 _) 2 _) 3 _)
      have HF5 := Lib.hid hF4
      have HK5 := Lib.hid (HK3.out.step hb9)
      have HL5 := Lib.hid (HL3.out.step hb9)
      have HC5 := Lib.hid (HC3.out.step hb9)
      have HO5 := Lib.hid (Only.trans HO3.out (Only.of_below hb9 [g]) (by omega) (fun x hx => hx))
      have R15 := Lib.hid r1'
      have R25 := Lib.hid r2'
      have HG15 : Hid (∀ x, x ∈ gOf Q1 → w.heap.size + 2 ≤ x ∧ x ≠ B4) := fun x hx => by have := ge1 x hx; omega
      have HG25 : Hid (∀ x, x ∈ gOf Q2 → w.heap.size + 2 ≤ x ∧ x ≠ B4) := fun x hx => by have := ge2 x hx; omega
      have hsm6 : smallA (((mn - (n - 1) : Nat) : Int) * 6400) s' t' := by
        have e : ((mn - (n - 1) : Nat) : Int) * 6400 = (((mn - n : Nat) : Int) * 6400) + 6400 := by omega
        rw [e]; exact hsm'
      have HSM5 := Lib.hid (And.intro hs' (And.intro ht' hsm6))
      clear hsm6
      clear hb9 hX4 hF4 r1' r2' ge1 ge2 hs' ht' hsm'
      dsimp only
      refine hK15.out _ _ (fun _ => (by (try dsimp only); refine ⟨?_, ?_, ?_, ?_, ?_, ?_⟩ <;> (go_simp; done))) (fun hHeld15 => ?_)
      have hXX15 := hHeld15 (by decide)
      refine wpAnyN_one (i := 16) rfl (by kernel_rfl) (fun K16 hK16 => ?_)
      go_simp
      refine hK16.out _ _ (fun _ => hXX15) (fun hHeld16 => ?_)
      have hXX16 := hHeld16 (by decide)
      refine wpAnyN_take (i := 17) (v := ?_) rfl (by kernel_rfl) (by kernel_rfl) (by kernel_rfl) (by kernel_rfl) (fun _ _ _ h => h) (Or.inl ⟨by rfl, ?_⟩) (by assumption) ?_; rotate_left; focus (intro w hSw; (try dsimp only at hSw); go_simp; try with_reducible rfl)
      refine wpAnyN_two (i := 18) (j := 19) rfl rfl (by kernel_rfl) (fun K18 hK18 => ?_) (fun K19 hK19 => ?_)
      · go_simp
        refine hK18.out _ _ (fun _ => hXX16) (fun hHeld18 => ?_)
        have hXX18 := hHeld18 (by decide)
        refine wpAnyN_one (i := 19) rfl (by kernel_rfl) (fun K20 hK20 => ?_)
        go_simp
        refine hK20.out _ _ (fun h => absurd rfl h) (fun hHeld20 => ?_)
        refine wpAnyN_done (by kernel_rfl) ?_ _
        go_wp2
        go_roundw
        case rel => exact ⟨n - 1, s', t', Q1, Q2, j1, j2, by go_num, by omega, HSM5.out.1, HSM5.out.2.1, HSM5.out.2.2, HX5.out, (by repeat (first | (with_reducible exact HF5.out) | ((with_reducible refine Own.far ?_ ?_ _); rotate_left; (first | omega | (simp <;> omega))) | (with_reducible refine Own.alloc ?_ _) | (with_reducible refine Own.drewN ?_ _) | (with_reducible refine Own.drew ?_) | (with_reducible refine Own.step (by assumption) ?_))), (by repeat (first | (with_reducible exact HK5.out) | ((with_reducible refine Own.far ?_ ?_ _); rotate_left; (first | omega | (simp <;> omega))) | (with_reducible refine Own.alloc ?_ _) | (with_reducible refine Own.drewN ?_ _) | (with_reducible refine Own.drew ?_) | (with_reducible refine Own.step (by assumption) ?_))), (by repeat (first | (with_reducible exact HL5.out) | ((with_reducible refine Own.far ?_ ?_ _); rotate_left; (first | omega | (simp <;> omega))) | (with_reducible refine Own.alloc ?_ _) | (with_reducible refine Own.drewN ?_ _) | (with_reducible refine Own.drew ?_) | (with_reducible refine Own.step (by assumption) ?_))), (by repeat (first | (with_reducible exact R15.out) | ((with_reducible refine RS.setCell ?_ ?_ _); rotate_left; (intro ad had; have := HG15.out ad.block (by rw [had]; simp [gOf]); simp; omega)))), (by repeat (first | (with_reducible exact R25.out) | ((with_reducible refine RS.setCell ?_ ?_ _); rotate_left; (intro ad had; have := HG25.out ad.block (by rw [had]; simp [gOf]); simp; omega)))), HG15.out, HG25.out, (by repeat (first | (with_reducible exact HC5.out) | ((with_reducible refine Cur.far ?_ ?_ _); rotate_left; (first | omega | (simp <;> omega))))), (by repeat (first | (with_reducible exact HO5.out) | ((with_reducible refine Only.up ?_ ?_ _); rotate_left; (first | omega | (simp <;> omega)))))⟩
        case measure => simp [intOf]; omega
      · go_simp
        refine hK19.out _ _ (fun h => absurd rfl h) (fun hHeld19 => ?_)
        refine wpAnyN_late (i := 18) rfl (by kernel_rfl) (by kernel_rfl) (fun K20 hK20 => ?_)
        go_simp
        refine hK20.out _ _ ?_
        refine wpAnyN_done (by kernel_rfl) ?_ _
        go_wp2
        go_roundw
        case rel => exact ⟨n - 1, s', t', Q1, Q2, j1, j2, by go_num, by omega, HSM5.out.1, HSM5.out.2.1, HSM5.out.2.2, HX5.out, (by repeat (first | (with_reducible exact HF5.out) | ((with_reducible refine Own.far ?_ ?_ _); rotate_left; (first | omega | (simp <;> omega))) | (with_reducible refine Own.alloc ?_ _) | (with_reducible refine Own.drewN ?_ _) | (with_reducible refine Own.drew ?_) | (with_reducible refine Own.step (by assumption) ?_))), (by repeat (first | (with_reducible exact HK5.out) | ((with_reducible refine Own.far ?_ ?_ _); rotate_left; (first | omega | (simp <;> omega))) | (with_reducible refine Own.alloc ?_ _) | (with_reducible refine Own.drewN ?_ _) | (with_reducible refine Own.drew ?_) | (with_reducible refine Own.step (by assumption) ?_))), (by repeat (first | (with_reducible exact HL5.out) | ((with_reducible refine Own.far ?_ ?_ _); rotate_left; (first | omega | (simp <;> omega))) | (with_reducible refine Own.alloc ?_ _) | (with_reducible refine Own.drewN ?_ _) | (with_reducible refine Own.drew ?_) | (with_reducible refine Own.step (by assumption) ?_))), (by repeat (first | (with_reducible exact R15.out) | ((with_reducible refine RS.setCell ?_ ?_ _); rotate_left; (intro ad had; have := HG15.out ad.block (by rw [had]; simp [gOf]); simp; omega)))), (by repeat (first | (with_reducible exact R25.out) | ((with_reducible refine RS.setCell ?_ ?_ _); rotate_left; (intro ad had; have := HG25.out ad.block (by rw [had]; simp [gOf]); simp; omega)))), HG15.out, HG25.out, (by repeat (first | (with_reducible exact HC5.out) | ((with_reducible refine Cur.far ?_ ?_ _); rotate_left; (first | omega | (simp <;> omega))))), (by repeat (first | (with_reducible exact HO5.out) | ((with_reducible refine Only.up ?_ ?_ _); rotate_left; (first | omega | (simp <;> omega)))))⟩
        case measure => simp [intOf]; omega
    · obtain rfl : n = 0 := by omega
      have q0 := HOK.out.cell 0
      have q1 := HOK.out.cell 1
      have q2 := HOK.out.cell 2
      have q3 := HOK.out.cell 3
      have qf := HOK.out.frozen
      have q4 := HOL.out.cell 0
      have q5 := HOL.out.cell 1
      have qg := HOL.out.frozen
      simp only [List.getElem?_cons_zero, List.getElem?_cons_succ] at q0 q1 q2 q3 q4 q5
      have n1 : ¬ w.heap.size = B4 := by omega
      have n2 : ¬ w.heap.size = B6 := by omega
      have n3 : ¬ w.heap.size + 1 = B4 := by omega
      have n4 : ¬ w.heap.size + 1 = B6 := by omega
      go_wp2_with fail
      go_region_held3 (fun w' => w'.cell? ⟨B4, 0, none⟩ = some (.int .i64 a) ∧ w'.cell? ⟨B4, 1, none⟩ = some (.int .i64 b) ∧ w'.cell? ⟨B4, 2, none⟩ = some (.slice P1 N k1) ∧ w'.cell? ⟨B4, 3, none⟩ = some (.slice P2 N k2) ∧ w'.cell? ⟨B6, 0, none⟩ = some (.int .i64 k) ∧ w'.cell? ⟨B6, 1, none⟩ = some (.int .i64 r))
        (first | ((try dsimp only); refine ⟨?_, ?_, ?_, ?_, ?_, ?_⟩ <;> (go_simp; done)) | go_keep)
        (fail)
      all_goals
        go_wp2
        refine bodyPost_ret (v := .tuple #[vAccum a b (.slice P1 N k1) (.slice P2 N k2), vFilter k r]) (by simp [results, Try.results109, go_sem, *]) rfl ?_
        obtain ⟨hs, ht, hsm⟩ := HSS.out
        refine ⟨⟨a, b, k, r, s, t, P1, P2, k1, k2, by rw [hs, ht], ⟨a1, a2⟩, ⟨b1, b2⟩, by rw [hs, HNN.out], by rw [ht, HNN.out], hsm.mono (by omega), hvf, ?_, ?_, fun x hx => by have := (HG1.out x hx).1; omega, fun x hx => by have := (HG2.out x hx).1; omega⟩, ?_, ?_⟩
        · rw [hs]; exact (by repeat (first | (with_reducible exact HRR.out.1) | (with_reducible exact R10.out) | (with_reducible refine RS.drew ?_) | (with_reducible refine RS.drewN ?_ _) | ((with_reducible refine RS.setCell ?_ ?_ _); rotate_left; (intro ad had; have := HG1.out ad.block (by rw [had]; simp [gOf]); simp; omega))))
        · rw [ht]; exact (by repeat (first | (with_reducible exact HRR.out.2) | (with_reducible exact R20.out) | (with_reducible refine RS.drew ?_) | (with_reducible refine RS.drewN ?_ _) | ((with_reducible refine RS.setCell ?_ ?_ _); rotate_left; (intro ad had; have := HG2.out ad.block (by rw [had]; simp [gOf]); simp; omega))))
        · exact (by repeat (first | (with_reducible exact HCr.out) | (with_reducible refine Cur.drew ?_) | (with_reducible refine Cur.drewN ?_ _) | ((with_reducible refine Cur.far ?_ ?_ _); rotate_left; (first | omega | (simp <;> omega)))))
        · exact (by repeat (first | (with_reducible exact HOr.out) | (with_reducible refine Only.drew ?_) | (with_reducible refine Only.drewN ?_ _) | ((with_reducible refine Only.up ?_ ?_ _); rotate_left; (first | omega | (simp <;> omega)))))
end Go.Proofs.Ythfnldjldfkmnaa
