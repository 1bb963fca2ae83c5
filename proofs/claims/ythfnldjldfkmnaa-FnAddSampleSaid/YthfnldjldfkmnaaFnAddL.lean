/- FnAddSample: samples can be added to a buffer in any order. -/
import Derived.Test.YthfnldjldfkmnaaAccD
import Derived.Test.YthfnldjldfkmnaaAddSmpI
import Derived.Test.YthfnldjldfkmnaaBytes
import Derived.Deep.DeepCutAuto
namespace Go.Proofs.Ythfnldjldfkmnaa
open Go.RowKit
set_option linter.unusedVariables false
set_option maxRecDepth 100000
theorem I_addSmall {a b N : Nat} {k r x y color B : Int} {P1 P2 : Option Addr} {k1 k2 : Nat} {s t : List Int} (w : World) (ha : 1 ≤ a ∧ a ≤ 12) (hb : 1 ≤ b ∧ b ≤ 12) (hN : a * b = N) (hs : s.length = N) (ht : t.length = N) (h : smallA B s t) (hB : B + 6400 ≤ 1000000000) (hf : validF k r = true) (hc : 0 ≤ color ∧ color ≤ 256) (hx : 0 ≤ x ∧ x ≤ a * 16 - 1) (hy : 0 ≤ y ∧ y ≤ b * 16 - 1) (h1 : RS w 1 P1 N k1 (ints s)) (h2 : RS w 1 P2 N k2 (ints t)) :
    Calls Try.prog 32 #[vAccum a b (.slice P1 N k1) (.slice P2 N k2), vFilter k r, vSample x y 0 0 0, .int .i64 color] w fun e w' => ∃ (Q1 Q2 : Option Addr) (j1 j2 : Nat), e = .returned (.tuple #[vAccum a b (.slice Q1 N j1) (.slice Q2 N j2), .bool true]) ∧ RS w' 1 Q1 N j1 (ints (sumsTo (wgt a k r x y) color s N)) ∧ RS w' 1 Q2 N j2 (ints (wtsTo (wgt a k r x y) t N)) ∧ (∀ x, x ∈ gOf Q1 → w.heap.size ≤ x) ∧ (∀ x, x ∈ gOf Q2 → w.heap.size ≤ x) ∧ Below w.heap.size w w' := by
  have hab : a * b ≤ 12 * 12 := Nat.mul_le_mul ha.2 hb.2
  obtain ⟨e1, e2, e3⟩ := add_fine ha hb (by omega) (by omega) h hB hf hc hx hy
  have h1' : RS w 1 P1 s.length k1 (ints s) := by rw [hs]; exact h1
  have h2' : RS w 1 P2 t.length k2 (ints t) := by rw [ht]; exact h2
  have := I_AddSample (W := a) (H := b) (k := k) (r := r) (x := x) (y := y) (tt := 0) (u := 0) (v := 0) (color := color) w (by omega) (by omega) h1' h2'
  rw [e1, e2, e3, hs, ht] at this
  refine this.mono ?_
  rintro e w' ⟨Q1, j1, Q2, j2, rfl, u1, u2, ge1, ge2, hd, hb9⟩
  exact ⟨Q1, Q2, j1, j2, rfl, u1.rs, u2.rs, ge1, ge2, hb9⟩
theorem small_addN {B : Int} {a N : Nat} {k r x y color : Int} {s t : List Int} (hs : s.length = N) (ht : t.length = N) (h : smallA B s t) (hc : 0 ≤ color ∧ color ≤ 256) : smallA (B + 6400) (sumsTo (wgt a k r x y) color s N) (wtsTo (wgt a k r x y) t N) := by
  have := small_add (a := a) (k := k) (r := r) (x := x) (y := y) (color := color) h hc
  rwa [hs, ht] at this
theorem sums_swapN (g g' : Nat → Int) (c c' : Int) {s : List Int} {N : Nat} (hs : s.length = N) : sumsTo g' c' (sumsTo g c s N) N = sumsTo g c (sumsTo g' c' s N) N := by
  subst hs
  have := sums_swap g g' c c' s
  rwa [sums_len, sums_len] at this
theorem wts_swapN (g g' : Nat → Int) {t : List Int} {N : Nat} (ht : t.length = N) : wtsTo g' (wtsTo g t N) N = wtsTo g (wtsTo g' t N) N := by
  subst ht
  have := wts_swap g g' t
  rwa [wts_len, wts_len] at this
theorem RS.lt {w : World} {sz n c : Nat} {A : Option Addr} {xs : List Value} (h : RS w sz A n c xs) (hn : 0 < n) : ∀ x, x ∈ gOf A → x < w.heap.size := by
  obtain ⟨b, o, rfl, hb, _⟩ := h.open_.2.2 hn
  intro x hx
  simp [gOf] at hx
  omega
theorem tmod_rng {v : Int} {a : Nat} (hv : 0 ≤ v) (ha : 1 ≤ a) : 0 ≤ Int.tmod v ((a : Int) * 16) ∧ Int.tmod v ((a : Int) * 16) ≤ a * 16 - 1 := by
  rw [Int.tmod_eq_emod_of_nonneg hv]
  have h1 := Int.emod_nonneg v (show ((a : Int) * 16) ≠ 0 by omega)
  have h2 := Int.emod_lt_of_pos v (show 0 < ((a : Int) * 16) by omega)
  omega
set_option maxHeartbeats 4000000 in
theorem S_makeAccum {c : Nat} {A : Option Addr} {l : List Int} (w : World) (hl : l.length ≤ 1048576) (h : RS w 1 A l.length c (u8s l)) :
    Calls Try.prog 31 #[.slice A l.length c] w fun e w' => DrawnAccum w e w' ∧ Below w.heap.size w w' := by
  have HR := Lib.hid h
  clear h
  have HK : Hid (Own ((w.alloc (.cells #[.int .i64 0, .int .i64 0, .slice none 0 0, .slice none 0 0] 61)).alloc (.cells #[.int .i64 0, .int .i64 0] 48)) w.heap.size 61 [.int .i64 0, .int .i64 0, .slice none 0 0, .slice none 0 0]) := Own.alloc (Own.new _ _ _) _
  have HL : Hid (Own ((w.alloc (.cells #[.int .i64 0, .int .i64 0, .slice none 0 0, .slice none 0 0] 61)).alloc (.cells #[.int .i64 0, .int .i64 0] 48)) (w.heap.size + 1) 48 [.int .i64 0, .int .i64 0]) := Own.at_new (cs := #[_, _]) (by simp)
  go_enter Try.func31, Try.ntmps31
  go_wp2_with fail
  refine (S_newCur _ hl ((HR.out.alloc _).alloc _)).mono ?_
  rintro e w1 ⟨g, rfl, hg, hc, hb⟩
  (try simp at hg)
  have hz1 := hb.size
  (try simp at hz1)
  have HC := Lib.hid hc
  have HK1 := Lib.hid (HK.out.step hb)
  have HL1 := Lib.hid (HL.out.step hb)
  have HB := Lib.hid (Below.trans (Below.alloc (Below.alloc (Below.refl w.heap.size w) (Nat.le_refl _) _) (by simp) _) (hb.mono (by simp; omega)))
  clear hc hb
  go_wp2_with fail
  refine (S_drawAccum _ HC.out).mono ?_
  rintro e w2 ⟨⟨a, b, k, r, s, t, P1, P2, k1, k2, rfl, ha, hb, hs, ht, hsm, hvf, r1, r2, ge1, ge2⟩, hc, hO⟩
  have hz2 := hO.size
  have hk2 := hO.own HK1.out (by omega) (by simp; omega)
  have hl2 := hO.own HL1.out (by omega) (by simp; omega)
  have q0 := hk2.cell 0
  have q1 := hk2.cell 1
  have q2 := hk2.cell 2
  have q3 := hk2.cell 3
  have qf := hk2.frozen
  have q4 := hl2.cell 0
  have q5 := hl2.cell 1
  have qg := hl2.frozen
  simp only [List.getElem?_cons_zero, List.getElem?_cons_succ] at q0 q1 q2 q3 q4 q5
  have HO := Lib.hid (Below.trans HB.out (hO.below (by omega) (fun x hx => by simp at hx; omega)))
  have HS := Lib.hid (And.intro hs (And.intro ht hsm))
  have R1 := Lib.hid r1
  have R2 := Lib.hid r2
  clear hc hO r1 r2 hk2 hl2 hs ht hsm
  go_wp2
  refine bodyPost_ret (v := .tuple #[vAccum a b (.slice P1 s.length k1) (.slice P2 t.length k2), vFilter k r]) (by simp [results, Try.results31, go_sem, *]) rfl ?_
  refine ⟨⟨a, b, k, r, s, t, P1, P2, k1, k2, rfl, ha, hb, HS.out.1, HS.out.2.1, HS.out.2.2, hvf, ?_, ?_, fun x hx => by have := ge1 x hx; omega, fun x hx => by have := ge2 x hx; omega⟩, (by repeat (first | (with_reducible exact Below.refl _ _) | (with_reducible exact HO.out) | (with_reducible assumption) | ((with_reducible refine Below.alloc ?_ ?_ _); rotate_left; (first | omega | (simp <;> omega))) | ((with_reducible refine Below.setCell ?_ ?_ _); rotate_left; (first | omega | (simp <;> omega))) | (with_reducible refine below_drewN ?_ _) | (with_reducible refine Below.drew ?_) | ((with_reducible refine Below.step (by assumption) ?_ ?_); rotate_left; (first | omega | (simp <;> omega)))))⟩
  · exact (by repeat (first | (with_reducible exact R1.out) | ((with_reducible refine RS.setCell ?_ ?_ _); rotate_left; (intro ad had; have := ge1 ad.block (by rw [had]; simp [gOf]); simp; omega))))
  · exact (by repeat (first | (with_reducible exact R2.out) | ((with_reducible refine RS.setCell ?_ ?_ _); rotate_left; (intro ad had; have := ge2 ad.block (by rw [had]; simp [gOf]); simp; omega))))
set_option maxHeartbeats 16000000 in
theorem L_FnAddSample : BytesLaw 6 := by
  intro A c l w h
  have HR := Lib.hid h
  have hlm := h.len
  unfold maxLen at hlm
  clear h
  rcases Nat.lt_or_ge 1048576 l.length with hbig | hsm
  · have hb' : (1048576 : Int) < (l.length : Int) := by omega
    go_enter Try.func6, Try.ntmps6
    go_wp2
    go_ret
    exact ⟨rfl, (by repeat (first | (with_reducible exact Below.refl _ _) | (with_reducible assumption) | ((with_reducible refine Below.alloc ?_ ?_ _); rotate_left; (first | omega | (simp <;> omega))) | ((with_reducible refine Below.setCell ?_ ?_ _); rotate_left; (first | omega | (simp <;> omega))) | (with_reducible refine below_drewN ?_ _) | (with_reducible refine Below.drew ?_) | ((with_reducible refine Below.step (by assumption) ?_ ?_); rotate_left; (first | omega | (simp <;> omega)))))⟩
  have hb' : ¬ (1048576 : Int) < (l.length : Int) := by omega
  go_enter Try.func6, Try.ntmps6
  go_upto_region 3 with fail
  go_cut [3, 4] (fun p3 p4 wx => ∃ (a b : Nat) (k r : Int) (s t : List Int) (P1 P2 : Option Addr) (k1 k2 B3 B4 : Nat), p3 = .pointer (some ⟨B3, 0, none⟩) ∧ p4 = .pointer (some ⟨B4, 0, none⟩) ∧ (2 ≤ a ∧ a ≤ 5) ∧ (2 ≤ b ∧ b ≤ 5) ∧ s.length = a * b ∧ t.length = a * b ∧ smallA 19200 s t ∧ validF k r = true ∧ Box wx B3 [.int .i64 a, .int .i64 b, .slice P1 (a * b) k1, .slice P2 (a * b) k2] ∧ Box wx B4 [.int .i64 k, .int .i64 r] ∧ RS wx 1 P1 (a * b) k1 (ints s) ∧ RS wx 1 P2 (a * b) k2 (ints t) ∧ Below w.heap.size w wx)
  case first =>
    go_wp2_with fail
    refine (S_makeAccum _ hsm HR.out).mono ?_
    rintro e w1 ⟨⟨a, b, k, r, s, t, P1, P2, k1, k2, rfl, ha, hb, hs, ht, hsa, hvf, r1, r2, ge1, ge2⟩, hB1⟩
    have hz1 := hB1.size
    have HS := Lib.hid (And.intro hs (And.intro ht hsa))
    have R1 := Lib.hid r1
    have R2 := Lib.hid r2
    rw [hs, ht]
    rw [hs] at R1
    rw [ht] at R2
    generalize hN : a * b = N at *
    have HN := Lib.hid hN
    clear hs ht r1 r2 hsa hN
    go_wp2_with fail
    go_meet
    exact ⟨a, b, k, r, s, t, P1, P2, k1, k2, _, _, rfl, rfl, ha, hb, by rw [HN.out]; exact HS.out.1, by rw [HN.out]; exact HS.out.2.1, HS.out.2.2, hvf, by rw [HN.out]; exact Box.mk4 (by first | omega | (simp <;> omega)) (by go_simp) (by go_simp) (by go_simp) (by go_simp), Box.mk2 (by first | omega | (simp <;> omega)) (by go_simp) (by go_simp), by rw [HN.out]; exact RS.step (by repeat (first | (with_reducible exact Below.refl _ _) | (with_reducible assumption) | ((with_reducible refine Below.alloc ?_ ?_ _); rotate_left; (first | omega | (simp <;> omega))) | ((with_reducible refine Below.setCell ?_ ?_ _); rotate_left; (first | omega | (simp <;> omega))) | (with_reducible refine below_drewN ?_ _) | (with_reducible refine Below.drew ?_) | ((with_reducible refine Below.step (by assumption) ?_ ?_); rotate_left; (first | omega | (simp <;> omega))))) R1.out, by rw [HN.out]; exact RS.step (by repeat (first | (with_reducible exact Below.refl _ _) | (with_reducible assumption) | ((with_reducible refine Below.alloc ?_ ?_ _); rotate_left; (first | omega | (simp <;> omega))) | ((with_reducible refine Below.setCell ?_ ?_ _); rotate_left; (first | omega | (simp <;> omega))) | (with_reducible refine below_drewN ?_ _) | (with_reducible refine Below.drew ?_) | ((with_reducible refine Below.step (by assumption) ?_ ?_); rotate_left; (first | omega | (simp <;> omega))))) R2.out, (by repeat (first | (with_reducible exact Below.refl _ _) | (with_reducible assumption) | ((with_reducible refine Below.alloc ?_ ?_ _); rotate_left; (first | omega | (simp <;> omega))) | ((with_reducible refine Below.setCell ?_ ?_ _); rotate_left; (first | omega | (simp <;> omega))) | (with_reducible refine below_drewN ?_ _) | (with_reducible refine Below.drew ?_) | ((with_reducible refine Below.step (by assumption) ?_ ?_); rotate_left; (first | omega | (simp <;> omega)))))⟩
  case rest =>
    obtain ⟨u3, rfl⟩ : ∃ u3, u3 = wc := ⟨_, rfl⟩
    obtain ⟨a, b, k, r, s, t, P1, P2, k1, k2, B3, B4, rfl, rfl, ⟨a1, a2⟩, ⟨b1, b2⟩, hs, ht, hsa, hvf, x3, x4, r1, r2, hB⟩ := hcut
    generalize hN : a * b = N at *
    have HNN := Lib.hid hN
    have hN25 : N ≤ 5 * 5 := by rw [← hN]; exact Nat.mul_le_mul a2 b2
    have HRu := Lib.hid (RS.step hB HR.out)
    have R1 := Lib.hid r1
    have R2 := Lib.hid r2
    have HX3 := Lib.hid x3
    have HX4 := Lib.hid x4
    have HBu := Lib.hid hB
    have HSS := Lib.hid (And.intro hs (And.intro ht hsa))
    have yA' : IntKind.i64.wrap ((a : Int) * 16) = (a : Int) * 16 := IntWalk.i64_in _ (by omega)
    have yB' : IntKind.i64.wrap ((b : Int) * 16) = (b : Int) * 16 := IntWalk.i64_in _ (by omega)
    have na1 : ¬ a = 0 := by omega
    have nb1 : ¬ b = 0 := by omega
    have na2 : ¬ (a : Int) * 16 = 0 := by omega
    have nb2 : ¬ (b : Int) * 16 = 0 := by omega
    have HM : Hid (∀ (n : Nat) (wx : World), n ≤ 1000 → RS wx 1 A l.length c (u8s l) → Calls Try.prog 26 #[.slice A l.length c, .int .i64 n] wx fun e w' => ∃ x, e = .returned (.int .i64 x) ∧ 0 ≤ x ∧ x ≤ 65535 ∧ Below wx.heap.size wx w') := fun n wx h1 h2 => S_makeNum wx hsm h1 h2
    clear hs ht hsa r1 r2 x3 x4 hB hN
    go_upto_region 4 with fail
    go_cut [5] (fun p wx => ∃ (x y : Int) (B : Nat), p = .pointer (some ⟨B, 0, none⟩) ∧ (0 ≤ x ∧ x ≤ a * 16 - 1) ∧ (0 ≤ y ∧ y ≤ b * 16 - 1) ∧ Box wx B [.int .i64 x, .int .i64 y, .int .i64 0, .int .i64 0, .int .i64 0] ∧ Below u3.heap.size u3 wx)
    case first =>
      obtain ⟨z3, e0, e1, e2, e3⟩ := HX3.out.open4
      have HA1 : Hid (∀ wx, RS wx 1 A l.length c (u8s l) → Calls Try.prog 26 #[.slice A l.length c, .int .i64 1] wx fun e w' => ∃ x, e = .returned (.int .i64 x) ∧ 0 ≤ x ∧ x ≤ 65535 ∧ Below wx.heap.size wx w') := fun wx h2 => HM.out 1 wx (by omega) h2
      have HA2 : Hid (∀ wx, RS wx 1 A l.length c (u8s l) → Calls Try.prog 26 #[.slice A l.length c, .int .i64 2] wx fun e w' => ∃ x, e = .returned (.int .i64 x) ∧ 0 ≤ x ∧ x ≤ 65535 ∧ Below wx.heap.size wx w') := fun wx h2 => HM.out 2 wx (by omega) h2
      have nd0 : ¬ u3.heap.size = B3 := by omega
      go_wp2_with fail
      go_region_held3 (fun w' => w'.cell? ⟨B3, 0, none⟩ = some (.int .i64 a) ∧ w'.cell? ⟨B3, 1, none⟩ = some (.int .i64 b))
        (first | ((try dsimp only); refine ⟨?_, ?_⟩ <;> (go_simp; done)) | go_keep)
        (first | (go_at_call 26; (with_reducible refine (HA1.out _ (RS.step (by repeat (first | (with_reducible exact Below.refl _ _) | (with_reducible assumption) | ((with_reducible refine Below.alloc ?_ ?_ _); rotate_left; (first | omega | (simp <;> omega))) | ((with_reducible refine Below.setCell ?_ ?_ _); rotate_left; (first | omega | (simp <;> omega))) | (with_reducible refine below_drewN ?_ _) | (with_reducible refine Below.drew ?_) | ((with_reducible refine Below.step (by assumption) ?_ ?_); rotate_left; (first | omega | (simp <;> omega))))) HRu.out)).mono ?_); rintro e m1 ⟨v1, rfl, v10, v11, hm1⟩; have hzm1 := hm1.size; (try simp at hzm1); have cm1 := fun o => hm1.cell (p := ⟨B3, o, none⟩) (by first | omega | (simp <;> omega)); have nd1 : ¬ m1.heap.size = B3 := (by omega); (try (refine with_box hm1 (u3.heap.size) ?_ ?_; (first | omega | (simp <;> omega)); intro nq1 nq2 nq3)); have hBm1 : Below u3.heap.size u3 m1 := (by repeat (first | (with_reducible exact Below.refl _ _) | (with_reducible exact hm1) | (with_reducible assumption) | ((with_reducible refine Below.alloc ?_ ?_ _); rotate_left; (first | omega | (simp <;> omega))) | ((with_reducible refine Below.setCell ?_ ?_ _); rotate_left; (first | omega | (simp <;> omega))) | (with_reducible refine below_drewN ?_ _) | (with_reducible refine Below.drew ?_) | ((with_reducible refine Below.step (by assumption) ?_ ?_); rotate_left; (first | omega | (simp <;> omega))))); obtain ⟨tm1, tm2⟩ := tmod_rng (a := a) v10 (by omega); have yt1 : IntKind.i64.wrap (Int.tmod v1 ((a : Int) * 16)) = Int.tmod v1 ((a : Int) * 16) := IntWalk.i64_in _ (by omega)) | (go_at_call 26; (with_reducible refine (HA2.out _ (RS.step (by first | assumption | exact (by repeat (first | (with_reducible exact Below.refl _ _) | (with_reducible exact hBm1) | (with_reducible assumption) | ((with_reducible refine Below.alloc ?_ ?_ _); rotate_left; (first | omega | (simp <;> omega))) | ((with_reducible refine Below.setCell ?_ ?_ _); rotate_left; (first | omega | (simp <;> omega))) | (with_reducible refine below_drewN ?_ _) | (with_reducible refine Below.drew ?_) | ((with_reducible refine Below.step (by assumption) ?_ ?_); rotate_left; (first | omega | (simp <;> omega)))))) HRu.out)).mono ?_); rintro e m2 ⟨v2, rfl, v20, v21, hm2⟩; have hzm2 := hm2.size; (try simp at hzm2); have cm2 := fun o => hm2.cell (p := ⟨B3, o, none⟩) (by first | omega | (simp <;> omega)); have nd2 : ¬ m2.heap.size = B3 := (by omega); (try (refine with_box hm2 (u3.heap.size) ?_ ?_; (first | omega | (simp <;> omega)); intro nq4 nq5 nq6)); (try (refine with_box hm2 (m1.heap.size) ?_ ?_; (first | omega | (simp <;> omega)); intro nq7 nq8 nq9)); have hBm2 : Below u3.heap.size u3 m2 := Below.trans (by repeat (first | (with_reducible exact Below.refl _ _) | (with_reducible exact hBm1) | (with_reducible assumption) | ((with_reducible refine Below.alloc ?_ ?_ _); rotate_left; (first | omega | (simp <;> omega))) | ((with_reducible refine Below.setCell ?_ ?_ _); rotate_left; (first | omega | (simp <;> omega))) | (with_reducible refine below_drewN ?_ _) | (with_reducible refine Below.drew ?_) | ((with_reducible refine Below.step (by assumption) ?_ ?_); rotate_left; (first | omega | (simp <;> omega))))) (hm2.mono (by first | omega | (simp <;> omega))); obtain ⟨tm3, tm4⟩ := tmod_rng (a := b) v20 (by omega); have yt2 : IntKind.i64.wrap (Int.tmod v2 ((b : Int) * 16)) = Int.tmod v2 ((b : Int) * 16) := IntWalk.i64_in _ (by omega)) | fail)
      all_goals
        go_wp2_with fail
        go_meet
        exact ⟨_, _, _, rfl, ⟨tm1, tm2⟩, ⟨tm3, tm4⟩, Box.mk5 (by first | omega | (simp <;> omega)) (by go_simp) (by go_simp) (by go_simp) (by go_simp) (by go_simp), (by repeat (first | (with_reducible exact Below.refl _ _) | (with_reducible exact hBm2) | (with_reducible assumption) | ((with_reducible refine Below.alloc ?_ ?_ _); rotate_left; (first | omega | (simp <;> omega))) | ((with_reducible refine Below.setCell ?_ ?_ _); rotate_left; (first | omega | (simp <;> omega))) | (with_reducible refine below_drewN ?_ _) | (with_reducible refine Below.drew ?_) | ((with_reducible refine Below.step (by assumption) ?_ ?_); rotate_left; (first | omega | (simp <;> omega)))))⟩
    case rest =>
      obtain ⟨u4, rfl⟩ : ∃ u4, u4 = wc := ⟨_, rfl⟩
      obtain ⟨xa, ya, B5, rfl, ⟨xa0, xa1⟩, ⟨ya0, ya1⟩, bx5, hbu4⟩ := hcut
      have HX5 := Lib.hid bx5
      replace HRu := Lib.hid (RS.step hbu4 HRu.out)
      replace R1 := Lib.hid (RS.step hbu4 R1.out)
      replace R2 := Lib.hid (RS.step hbu4 R2.out)
      replace HX3 := Lib.hid (Box.step hbu4 HX3.out)
      replace HX4 := Lib.hid (Box.step hbu4 HX4.out)
      replace HBu := Lib.hid (Below.trans HBu.out (hbu4.mono HBu.out.size))
      clear bx5 hbu4
      go_upto_region 5 with fail
      go_cut [6] (fun p wx => ∃ (x y : Int) (B : Nat), p = .pointer (some ⟨B, 0, none⟩) ∧ (0 ≤ x ∧ x ≤ a * 16 - 1) ∧ (0 ≤ y ∧ y ≤ b * 16 - 1) ∧ Box wx B [.int .i64 x, .int .i64 y, .int .i64 0, .int .i64 0, .int .i64 0] ∧ Below u4.heap.size u4 wx)
      case first =>
        obtain ⟨z3, e0, e1, e2, e3⟩ := HX3.out.open4
        have HA1 : Hid (∀ wx, RS wx 1 A l.length c (u8s l) → Calls Try.prog 26 #[.slice A l.length c, .int .i64 3] wx fun e w' => ∃ x, e = .returned (.int .i64 x) ∧ 0 ≤ x ∧ x ≤ 65535 ∧ Below wx.heap.size wx w') := fun wx h2 => HM.out 3 wx (by omega) h2
        have HA2 : Hid (∀ wx, RS wx 1 A l.length c (u8s l) → Calls Try.prog 26 #[.slice A l.length c, .int .i64 4] wx fun e w' => ∃ x, e = .returned (.int .i64 x) ∧ 0 ≤ x ∧ x ≤ 65535 ∧ Below wx.heap.size wx w') := fun wx h2 => HM.out 4 wx (by omega) h2
        have nd0 : ¬ u4.heap.size = B3 := by omega
        go_wp2_with fail
        go_region_held3 (fun w' => w'.cell? ⟨B3, 0, none⟩ = some (.int .i64 a) ∧ w'.cell? ⟨B3, 1, none⟩ = some (.int .i64 b))
          (first | ((try dsimp only); refine ⟨?_, ?_⟩ <;> (go_simp; done)) | go_keep)
          (first | (go_at_call 26; (with_reducible refine (HA1.out _ (RS.step (by repeat (first | (with_reducible exact Below.refl _ _) | (with_reducible assumption) | ((with_reducible refine Below.alloc ?_ ?_ _); rotate_left; (first | omega | (simp <;> omega))) | ((with_reducible refine Below.setCell ?_ ?_ _); rotate_left; (first | omega | (simp <;> omega))) | (with_reducible refine below_drewN ?_ _) | (with_reducible refine Below.drew ?_) | ((with_reducible refine Below.step (by assumption) ?_ ?_); rotate_left; (first | omega | (simp <;> omega))))) HRu.out)).mono ?_); rintro e m1 ⟨v1, rfl, v10, v11, hm1⟩; have hzm1 := hm1.size; (try simp at hzm1); have cm1 := fun o => hm1.cell (p := ⟨B3, o, none⟩) (by first | omega | (simp <;> omega)); have nd1 : ¬ m1.heap.size = B3 := (by omega); (try (refine with_box hm1 (u4.heap.size) ?_ ?_; (first | omega | (simp <;> omega)); intro nq1 nq2 nq3)); have hBm1 : Below u4.heap.size u4 m1 := (by repeat (first | (with_reducible exact Below.refl _ _) | (with_reducible exact hm1) | (with_reducible assumption) | ((with_reducible refine Below.alloc ?_ ?_ _); rotate_left; (first | omega | (simp <;> omega))) | ((with_reducible refine Below.setCell ?_ ?_ _); rotate_left; (first | omega | (simp <;> omega))) | (with_reducible refine below_drewN ?_ _) | (with_reducible refine Below.drew ?_) | ((with_reducible refine Below.step (by assumption) ?_ ?_); rotate_left; (first | omega | (simp <;> omega))))); obtain ⟨tm1, tm2⟩ := tmod_rng (a := a) v10 (by omega); have yt1 : IntKind.i64.wrap (Int.tmod v1 ((a : Int) * 16)) = Int.tmod v1 ((a : Int) * 16) := IntWalk.i64_in _ (by omega)) | (go_at_call 26; (with_reducible refine (HA2.out _ (RS.step (by first | assumption | exact (by repeat (first | (with_reducible exact Below.refl _ _) | (with_reducible exact hBm1) | (with_reducible assumption) | ((with_reducible refine Below.alloc ?_ ?_ _); rotate_left; (first | omega | (simp <;> omega))) | ((with_reducible refine Below.setCell ?_ ?_ _); rotate_left; (first | omega | (simp <;> omega))) | (with_reducible refine below_drewN ?_ _) | (with_reducible refine Below.drew ?_) | ((with_reducible refine Below.step (by assumption) ?_ ?_); rotate_left; (first | omega | (simp <;> omega)))))) HRu.out)).mono ?_); rintro e m2 ⟨v2, rfl, v20, v21, hm2⟩; have hzm2 := hm2.size; (try simp at hzm2); have cm2 := fun o => hm2.cell (p := ⟨B3, o, none⟩) (by first | omega | (simp <;> omega)); have nd2 : ¬ m2.heap.size = B3 := (by omega); (try (refine with_box hm2 (u4.heap.size) ?_ ?_; (first | omega | (simp <;> omega)); intro nq4 nq5 nq6)); (try (refine with_box hm2 (m1.heap.size) ?_ ?_; (first | omega | (simp <;> omega)); intro nq7 nq8 nq9)); have hBm2 : Below u4.heap.size u4 m2 := Below.trans (by repeat (first | (with_reducible exact Below.refl _ _) | (with_reducible exact hBm1) | (with_reducible assumption) | ((with_reducible refine Below.alloc ?_ ?_ _); rotate_left; (first | omega | (simp <;> omega))) | ((with_reducible refine Below.setCell ?_ ?_ _); rotate_left; (first | omega | (simp <;> omega))) | (with_reducible refine below_drewN ?_ _) | (with_reducible refine Below.drew ?_) | ((with_reducible refine Below.step (by assumption) ?_ ?_); rotate_left; (first | omega | (simp <;> omega))))) (hm2.mono (by first | omega | (simp <;> omega))); obtain ⟨tm3, tm4⟩ := tmod_rng (a := b) v20 (by omega); have yt2 : IntKind.i64.wrap (Int.tmod v2 ((b : Int) * 16)) = Int.tmod v2 ((b : Int) * 16) := IntWalk.i64_in _ (by omega)) | fail)
        all_goals
          go_wp2_with fail
          go_meet
          exact ⟨_, _, _, rfl, ⟨tm1, tm2⟩, ⟨tm3, tm4⟩, Box.mk5 (by first | omega | (simp <;> omega)) (by go_simp) (by go_simp) (by go_simp) (by go_simp) (by go_simp), (by repeat (first | (with_reducible exact Below.refl _ _) | (with_reducible exact hBm2) | (with_reducible assumption) | ((with_reducible refine Below.alloc ?_ ?_ _); rotate_left; (first | omega | (simp <;> omega))) | ((with_reducible refine Below.setCell ?_ ?_ _); rotate_left; (first | omega | (simp <;> omega))) | (with_reducible refine below_drewN ?_ _) | (with_reducible refine Below.drew ?_) | ((with_reducible refine Below.step (by assumption) ?_ ?_); rotate_left; (first | omega | (simp <;> omega)))))⟩
      case rest =>
        obtain ⟨u5, rfl⟩ : ∃ u5, u5 = wc := ⟨_, rfl⟩
        obtain ⟨xb, yb, B6, rfl, ⟨xb0, xb1⟩, ⟨yb0, yb1⟩, bx6, hbu5⟩ := hcut
        have HX6 := Lib.hid bx6
        replace HRu := Lib.hid (RS.step hbu5 HRu.out)
        replace R1 := Lib.hid (RS.step hbu5 R1.out)
        replace R2 := Lib.hid (RS.step hbu5 R2.out)
        replace HX3 := Lib.hid (Box.step hbu5 HX3.out)
        replace HX4 := Lib.hid (Box.step hbu5 HX4.out)
        replace HX5 := Lib.hid (Box.step hbu5 HX5.out)
        replace HBu := Lib.hid (Below.trans HBu.out (hbu5.mono HBu.out.size))
        clear bx6 hbu5
        have l3 := HX3.out.lt
        have l4 := HX4.out.lt
        have l5 := HX5.out.lt
        have l6 := HX6.out.lt
        have hN1 : 0 < N := by rw [← HNN.out]; exact Nat.mul_pos (by omega) (by omega)
        have p1l := RS.lt R1.out hN1
        have p2l := RS.lt R2.out hN1
        have HP1L := Lib.hid p1l
        have HP2L := Lib.hid p2l
        obtain ⟨U5, hU5⟩ : ∃ U5, u5.heap.size = U5 := ⟨_, rfl⟩
        have hU : U5 ≤ u5.heap.size := by omega
        rw [hU5] at l3 l4 l5 l6 p1l p2l HP1L HP2L
        clear hU5 p1l p2l
        generalize hGA : wgt a k r xa ya = GA
        generalize hGB : wgt a k r xb yb = GB
        have HGA := Lib.hid hGA
        have HGB := Lib.hid hGB
        have HS1 : Hid ((sumsTo GA 30 s N).length = N ∧ (wtsTo GA t N).length = N ∧ smallA 25600 (sumsTo GA 30 s N) (wtsTo GA t N)) := ⟨by rw [sums_len, HSS.out.1], by rw [wts_len, HSS.out.2.1], by rw [← HGA.out]; exact (small_addN HSS.out.1 HSS.out.2.1 HSS.out.2.2 (by omega)).mono (by omega)⟩
        have HS2 : Hid ((sumsTo GB 200 s N).length = N ∧ (wtsTo GB t N).length = N ∧ smallA 25600 (sumsTo GB 200 s N) (wtsTo GB t N)) := ⟨by rw [sums_len, HSS.out.1], by rw [wts_len, HSS.out.2.1], by rw [← HGB.out]; exact (small_addN HSS.out.1 HSS.out.2.1 HSS.out.2.2 (by omega)).mono (by omega)⟩
        have HAA : Hid (∀ (wx : World) (Q1 Q2 : Option Addr) (j1 j2 : Nat) (s' t' : List Int) (B color : Int), s'.length = N → t'.length = N → smallA B s' t' → B + 6400 ≤ 1000000000 → 0 ≤ color ∧ color ≤ 256 → RS wx 1 Q1 N j1 (ints s') → RS wx 1 Q2 N j2 (ints t') → Calls Try.prog 32 #[vAccum a b (.slice Q1 N j1) (.slice Q2 N j2), vFilter k r, vSample xa ya 0 0 0, .int .i64 color] wx fun e w' => ∃ (Q1 Q2 : Option Addr) (j1 j2 : Nat), e = .returned (.tuple #[vAccum a b (.slice Q1 N j1) (.slice Q2 N j2), .bool true]) ∧ RS w' 1 Q1 N j1 (ints (sumsTo GA color s' N)) ∧ RS w' 1 Q2 N j2 (ints (wtsTo GA t' N)) ∧ (∀ x, x ∈ gOf Q1 → wx.heap.size ≤ x) ∧ (∀ x, x ∈ gOf Q2 → wx.heap.size ≤ x) ∧ Below wx.heap.size wx w') := fun wx Q1 Q2 j1 j2 s' t' B color h1 h2 h3 h4 h5 h6 h7 => by rw [← HGA.out]; exact I_addSmall wx ⟨by omega, by omega⟩ ⟨by omega, by omega⟩ HNN.out h1 h2 h3 h4 hvf h5 ⟨xa0, xa1⟩ ⟨ya0, ya1⟩ h6 h7
        have HAB : Hid (∀ (wx : World) (Q1 Q2 : Option Addr) (j1 j2 : Nat) (s' t' : List Int) (B color : Int), s'.length = N → t'.length = N → smallA B s' t' → B + 6400 ≤ 1000000000 → 0 ≤ color ∧ color ≤ 256 → RS wx 1 Q1 N j1 (ints s') → RS wx 1 Q2 N j2 (ints t') → Calls Try.prog 32 #[vAccum a b (.slice Q1 N j1) (.slice Q2 N j2), vFilter k r, vSample xb yb 0 0 0, .int .i64 color] wx fun e w' => ∃ (Q1 Q2 : Option Addr) (j1 j2 : Nat), e = .returned (.tuple #[vAccum a b (.slice Q1 N j1) (.slice Q2 N j2), .bool true]) ∧ RS w' 1 Q1 N j1 (ints (sumsTo GB color s' N)) ∧ RS w' 1 Q2 N j2 (ints (wtsTo GB t' N)) ∧ (∀ x, x ∈ gOf Q1 → wx.heap.size ≤ x) ∧ (∀ x, x ∈ gOf Q2 → wx.heap.size ≤ x) ∧ Below wx.heap.size wx w') := fun wx Q1 Q2 j1 j2 s' t' B color h1 h2 h3 h4 h5 h6 h7 => by rw [← HGB.out]; exact I_addSmall wx ⟨by omega, by omega⟩ ⟨by omega, by omega⟩ HNN.out h1 h2 h3 h4 hvf h5 ⟨xb0, xb1⟩ ⟨yb0, yb1⟩ h6 h7
        clear hGA hGB
        go_upto_region 6 with fail
        go_cut [7, 8] (fun p ok wx => ∃ (Q1 Q2 : Option Addr) (j1 j2 B : Nat), p = .pointer (some ⟨B, 0, none⟩) ∧ ok = .bool true ∧ Own wx B 61 [.int .i64 a, .int .i64 b, .slice Q1 N j1, .slice Q2 N j2] ∧ RS wx 1 Q1 N j1 (ints (sumsTo GA 30 s N)) ∧ RS wx 1 Q2 N j2 (ints (wtsTo GA t N)) ∧ u5.heap.size ≤ B ∧ Below u5.heap.size u5 wx)
        case first =>
          obtain ⟨z3, e0, e1, e2, e3⟩ := HX3.out.open4
          obtain ⟨z4, e4, e5⟩ := HX4.out.open2
          obtain ⟨z5, f0, f1, f2, f3, f4⟩ := HX5.out.open5
          have HCAL : Hid (Calls Try.prog 32 #[vAccum a b (.slice P1 N k1) (.slice P2 N k2), vFilter k r, vSample xa ya 0 0 0, .int .i64 30] u5 _) := HAA.out u5 P1 P2 k1 k2 s t 19200 30 HSS.out.1 HSS.out.2.1 HSS.out.2.2 (by omega) (by omega) R1.out R2.out
          go_wp2_with fail
          refine HCAL.out.mono ?_
          rintro e w6 ⟨Q1, Q2, j1, j2, rfl, q1, q2, ge1, ge2, hb6⟩
          have hz6 := hb6.size
          go_wp2_with fail
          go_meet
          exact ⟨Q1, Q2, j1, j2, w6.heap.size, rfl, rfl, Own.new _ _ #[_, _, _, _], RS.step (by repeat (first | (with_reducible exact Below.refl _ _) | (with_reducible assumption) | ((with_reducible refine Below.alloc ?_ ?_ _); rotate_left; (first | omega | (simp <;> omega))) | ((with_reducible refine Below.setCell ?_ ?_ _); rotate_left; (first | omega | (simp <;> omega))) | (with_reducible refine below_drewN ?_ _) | (with_reducible refine Below.drew ?_) | ((with_reducible refine Below.step (by assumption) ?_ ?_); rotate_left; (first | omega | (simp <;> omega))))) q1, RS.step (by repeat (first | (with_reducible exact Below.refl _ _) | (with_reducible assumption) | ((with_reducible refine Below.alloc ?_ ?_ _); rotate_left; (first | omega | (simp <;> omega))) | ((with_reducible refine Below.setCell ?_ ?_ _); rotate_left; (first | omega | (simp <;> omega))) | (with_reducible refine below_drewN ?_ _) | (with_reducible refine Below.drew ?_) | ((with_reducible refine Below.step (by assumption) ?_ ?_); rotate_left; (first | omega | (simp <;> omega))))) q2, hz6, (by repeat (first | (with_reducible exact Below.refl _ _) | (with_reducible exact hb6) | (with_reducible assumption) | ((with_reducible refine Below.alloc ?_ ?_ _); rotate_left; (first | omega | (simp <;> omega))) | ((with_reducible refine Below.setCell ?_ ?_ _); rotate_left; (first | omega | (simp <;> omega))) | (with_reducible refine below_drewN ?_ _) | (with_reducible refine Below.drew ?_) | ((with_reducible refine Below.step (by assumption) ?_ ?_); rotate_left; (first | omega | (simp <;> omega)))))⟩
        case rest =>
          obtain ⟨u6, rfl⟩ : ∃ u6, u6 = wc := ⟨_, rfl⟩
          obtain ⟨Q71, Q72, j71, j72, B7, rfl, rfl, o7, q71, q72, hB7, hbu6⟩ := hcut
          have hzu6 := hbu6.size
          have hwB7 : w.heap.size ≤ B7 := by have := HBu.out.size; omega
          replace R1 := Lib.hid (RS.step hbu6 R1.out)
          replace R2 := Lib.hid (RS.step hbu6 R2.out)
          replace HX3 := Lib.hid (Box.step hbu6 HX3.out)
          replace HX4 := Lib.hid (Box.step hbu6 HX4.out)
          replace HX5 := Lib.hid (Box.step hbu6 HX5.out)
          replace HX6 := Lib.hid (Box.step hbu6 HX6.out)
          replace HBu := Lib.hid (Below.trans HBu.out (hbu6.mono HBu.out.size))
          have ql71 := RS.lt q71 hN1
          have ql72 := RS.lt q72 hN1
          have ol7 := o7.lt
          have HO7 := Lib.hid o7
          have RQ71 := Lib.hid q71
          have RQ72 := Lib.hid q72
          clear o7 q71 q72 hbu6
          go_upto_region 7 with fail
          go_cut [9] (fun ok wx => ∃ (Q1 Q2 : Option Addr) (j1 j2 : Nat), ok = .bool true ∧ Own wx B7 61 [.int .i64 a, .int .i64 b, .slice Q1 N j1, .slice Q2 N j2] ∧ RS wx 1 Q1 N j1 (ints (sumsTo GB 200 (sumsTo GA 30 s N) N)) ∧ RS wx 1 Q2 N j2 (ints (wtsTo GB (wtsTo GA t N) N)) ∧ Only u6.heap.size [B7] u6 wx)
          case first =>
            obtain ⟨z4, e4, e5⟩ := HX4.out.open2
            obtain ⟨z5, f0, f1, f2, f3, f4⟩ := HX6.out.open5
            have o0 := HO7.out.cell 0
            have o1 := HO7.out.cell 1
            have o2 := HO7.out.cell 2
            have o3 := HO7.out.cell 3
            simp only [List.getElem?_cons_zero, List.getElem?_cons_succ] at o0 o1 o2 o3
            have HCAL : Hid (Calls Try.prog 32 #[vAccum a b (.slice Q71 N j71) (.slice Q72 N j72), vFilter k r, vSample xb yb 0 0 0, .int .i64 200] u6 _) := HAB.out u6 Q71 Q72 j71 j72 (sumsTo GA 30 s N) (wtsTo GA t N) 25600 200 HS1.out.1 HS1.out.2.1 HS1.out.2.2 (by omega) (by omega) RQ71.out RQ72.out
            go_wp2_with fail
            refine HCAL.out.mono ?_
            rintro e w6 ⟨Q1, Q2, j1, j2, rfl, q1, q2, ge1, ge2, hb6⟩
            have hz6 := hb6.size
            have ho6 := HO7.out.step hb6
            have s0 := ho6.cell 0
            have s1 := ho6.cell 1
            have s2 := ho6.cell 2
            have s3 := ho6.cell 3
            have sf := ho6.frozen
            simp only [List.getElem?_cons_zero, List.getElem?_cons_succ] at s0 s1 s2 s3
            have HS6 := Lib.hid (show Own ((((w6.setCell ⟨B7, 0, none⟩ (.int .i64 a)).setCell ⟨B7, 1, none⟩ (.int .i64 b)).setCell ⟨B7, 2, none⟩ (.slice Q1 N j1)).setCell ⟨B7, 3, none⟩ (.slice Q2 N j2)) B7 61 [.int .i64 a, .int .i64 b, .slice Q1 N j1, .slice Q2 N j2] from Own.set_ (Own.set_ (Own.set_ (Own.set_ ho6 0 _) 1 _) 2 _) 3 _)
            clear ho6
            go_wp2_with fail
            go_meet
            exact ⟨Q1, Q2, j1, j2, rfl, HS6.out, (by repeat (first | (with_reducible exact q1) | ((with_reducible refine RS.setCell ?_ ?_ _); rotate_left; (intro ad had; have := ge1 ad.block (by rw [had]; simp [gOf]); simp; omega)))), (by repeat (first | (with_reducible exact q2) | ((with_reducible refine RS.setCell ?_ ?_ _); rotate_left; (intro ad had; have := ge2 ad.block (by rw [had]; simp [gOf]); simp; omega)))), Only.setCell (p := ⟨B7, 3, none⟩) (Only.setCell (p := ⟨B7, 2, none⟩) (Only.setCell (p := ⟨B7, 1, none⟩) (Only.setCell (p := ⟨B7, 0, none⟩) (Only.of_below hb6 [B7]) (by simp) _) (by simp) _) (by simp) _) (by simp) _⟩
          case rest =>
            obtain ⟨u7, rfl⟩ : ∃ u7, u7 = wc := ⟨_, rfl⟩
            clear RQ71 RQ72 HO7 ql71 ql72
            obtain ⟨Q71, Q72, j71, j72, rfl, o7, q71, q72, hbu7⟩ := hcut
            have hzu7 := hbu7.size
            replace R1 := Lib.hid (RS.only R1.out hbu7 (Nat.le_refl _) (fun _ x hx => by have := HP1L.out x hx; simp; omega))
            replace R2 := Lib.hid (RS.only R2.out hbu7 (Nat.le_refl _) (fun _ x hx => by have := HP2L.out x hx; simp; omega))
            replace HX3 := Lib.hid (Box.only hbu7 HX3.out HX3.out.lt (by simp; omega))
            replace HX4 := Lib.hid (Box.only hbu7 HX4.out HX4.out.lt (by simp; omega))
            replace HX5 := Lib.hid (Box.only hbu7 HX5.out HX5.out.lt (by simp; omega))
            replace HX6 := Lib.hid (Box.only hbu7 HX6.out HX6.out.lt (by simp; omega))
            replace HBu := Lib.hid (Below.trans HBu.out (hbu7.below HBu.out.size (fun x hx => by simp at hx; omega)))
            have ql71 := RS.lt q71 hN1
            have ql72 := RS.lt q72 hN1
            have HO7 := Lib.hid o7
            have RQ71 := Lib.hid q71
            have RQ72 := Lib.hid q72
            clear o7 q71 q72 hbu7
            go_upto_region 8 with fail
            go_cut [10, 11] (fun p ok wx => ∃ (Q1 Q2 : Option Addr) (j1 j2 B : Nat), p = .pointer (some ⟨B, 0, none⟩) ∧ ok = .bool true ∧ Own wx B 61 [.int .i64 a, .int .i64 b, .slice Q1 N j1, .slice Q2 N j2] ∧ RS wx 1 Q1 N j1 (ints (sumsTo GB 200 s N)) ∧ RS wx 1 Q2 N j2 (ints (wtsTo GB t N)) ∧ u7.heap.size ≤ B ∧ Below u7.heap.size u7 wx)
            case first =>
              obtain ⟨z3, e0, e1, e2, e3⟩ := HX3.out.open4
              obtain ⟨z4, e4, e5⟩ := HX4.out.open2
              obtain ⟨z5, f0, f1, f2, f3, f4⟩ := HX6.out.open5
              have HCAL : Hid (Calls Try.prog 32 #[vAccum a b (.slice P1 N k1) (.slice P2 N k2), vFilter k r, vSample xb yb 0 0 0, .int .i64 200] u7 _) := HAB.out u7 P1 P2 k1 k2 s t 19200 200 HSS.out.1 HSS.out.2.1 HSS.out.2.2 (by omega) (by omega) R1.out R2.out
              go_wp2_with fail
              refine HCAL.out.mono ?_
              rintro e w6 ⟨Q1, Q2, j1, j2, rfl, q1, q2, ge1, ge2, hb6⟩
              have hz6 := hb6.size
              go_wp2_with fail
              go_meet
              exact ⟨Q1, Q2, j1, j2, w6.heap.size, rfl, rfl, Own.new _ _ #[_, _, _, _], RS.step (by repeat (first | (with_reducible exact Below.refl _ _) | (with_reducible assumption) | ((with_reducible refine Below.alloc ?_ ?_ _); rotate_left; (first | omega | (simp <;> omega))) | ((with_reducible refine Below.setCell ?_ ?_ _); rotate_left; (first | omega | (simp <;> omega))) | (with_reducible refine below_drewN ?_ _) | (with_reducible refine Below.drew ?_) | ((with_reducible refine Below.step (by assumption) ?_ ?_); rotate_left; (first | omega | (simp <;> omega))))) q1, RS.step (by repeat (first | (with_reducible exact Below.refl _ _) | (with_reducible assumption) | ((with_reducible refine Below.alloc ?_ ?_ _); rotate_left; (first | omega | (simp <;> omega))) | ((with_reducible refine Below.setCell ?_ ?_ _); rotate_left; (first | omega | (simp <;> omega))) | (with_reducible refine below_drewN ?_ _) | (with_reducible refine Below.drew ?_) | ((with_reducible refine Below.step (by assumption) ?_ ?_); rotate_left; (first | omega | (simp <;> omega))))) q2, hz6, (by repeat (first | (with_reducible exact Below.refl _ _) | (with_reducible exact hb6) | (with_reducible assumption) | ((with_reducible refine Below.alloc ?_ ?_ _); rotate_left; (first | omega | (simp <;> omega))) | ((with_reducible refine Below.setCell ?_ ?_ _); rotate_left; (first | omega | (simp <;> omega))) | (with_reducible refine below_drewN ?_ _) | (with_reducible refine Below.drew ?_) | ((with_reducible refine Below.step (by assumption) ?_ ?_); rotate_left; (first | omega | (simp <;> omega)))))⟩
            case rest =>
              obtain ⟨u8, rfl⟩ : ∃ u8, u8 = wc := ⟨_, rfl⟩
              obtain ⟨Q101, Q102, j101, j102, B10, rfl, rfl, o10, q101, q102, hB10, hbu8⟩ := hcut
              have hzu8 := hbu8.size
              have hwB10 : w.heap.size ≤ B10 := by have := HBu.out.size; omega
              replace R1 := Lib.hid (RS.step hbu8 R1.out)
              replace R2 := Lib.hid (RS.step hbu8 R2.out)
              replace HX3 := Lib.hid (Box.step hbu8 HX3.out)
              replace HX4 := Lib.hid (Box.step hbu8 HX4.out)
              replace HX5 := Lib.hid (Box.step hbu8 HX5.out)
              replace HX6 := Lib.hid (Box.step hbu8 HX6.out)
              replace HO7 := Lib.hid (Own.step hbu8 HO7.out)
              replace RQ71 := Lib.hid (RS.step hbu8 RQ71.out)
              replace RQ72 := Lib.hid (RS.step hbu8 RQ72.out)
              replace HBu := Lib.hid (Below.trans HBu.out (hbu8.mono HBu.out.size))
              have ql101 := RS.lt q101 hN1
              have ql102 := RS.lt q102 hN1
              have ol10 := o10.lt
              have HO10 := Lib.hid o10
              have RQ101 := Lib.hid q101
              have RQ102 := Lib.hid q102
              clear o10 q101 q102 hbu8
              go_upto_region 9 with fail
              go_cut [12] (fun ok wx => ∃ (Q1 Q2 : Option Addr) (j1 j2 : Nat), ok = .bool true ∧ Own wx B10 61 [.int .i64 a, .int .i64 b, .slice Q1 N j1, .slice Q2 N j2] ∧ RS wx 1 Q1 N j1 (ints (sumsTo GA 30 (sumsTo GB 200 s N) N)) ∧ RS wx 1 Q2 N j2 (ints (wtsTo GA (wtsTo GB t N) N)) ∧ Only u8.heap.size [B10] u8 wx)
              case first =>
                obtain ⟨z4, e4, e5⟩ := HX4.out.open2
                obtain ⟨z5, f0, f1, f2, f3, f4⟩ := HX5.out.open5
                have o0 := HO10.out.cell 0
                have o1 := HO10.out.cell 1
                have o2 := HO10.out.cell 2
                have o3 := HO10.out.cell 3
                simp only [List.getElem?_cons_zero, List.getElem?_cons_succ] at o0 o1 o2 o3
                have HCAL : Hid (Calls Try.prog 32 #[vAccum a b (.slice Q101 N j101) (.slice Q102 N j102), vFilter k r, vSample xa ya 0 0 0, .int .i64 30] u8 _) := HAA.out u8 Q101 Q102 j101 j102 (sumsTo GB 200 s N) (wtsTo GB t N) 25600 30 HS2.out.1 HS2.out.2.1 HS2.out.2.2 (by omega) (by omega) RQ101.out RQ102.out
                go_wp2_with fail
                refine HCAL.out.mono ?_
                rintro e w6 ⟨Q1, Q2, j1, j2, rfl, q1, q2, ge1, ge2, hb6⟩
                have hz6 := hb6.size
                have ho6 := HO10.out.step hb6
                have s0 := ho6.cell 0
                have s1 := ho6.cell 1
                have s2 := ho6.cell 2
                have s3 := ho6.cell 3
                have sf := ho6.frozen
                simp only [List.getElem?_cons_zero, List.getElem?_cons_succ] at s0 s1 s2 s3
                have HS6 := Lib.hid (show Own ((((w6.setCell ⟨B10, 0, none⟩ (.int .i64 a)).setCell ⟨B10, 1, none⟩ (.int .i64 b)).setCell ⟨B10, 2, none⟩ (.slice Q1 N j1)).setCell ⟨B10, 3, none⟩ (.slice Q2 N j2)) B10 61 [.int .i64 a, .int .i64 b, .slice Q1 N j1, .slice Q2 N j2] from Own.set_ (Own.set_ (Own.set_ (Own.set_ ho6 0 _) 1 _) 2 _) 3 _)
                clear ho6
                go_wp2_with fail
                go_meet
                exact ⟨Q1, Q2, j1, j2, rfl, HS6.out, (by repeat (first | (with_reducible exact q1) | ((with_reducible refine RS.setCell ?_ ?_ _); rotate_left; (intro ad had; have := ge1 ad.block (by rw [had]; simp [gOf]); simp; omega)))), (by repeat (first | (with_reducible exact q2) | ((with_reducible refine RS.setCell ?_ ?_ _); rotate_left; (intro ad had; have := ge2 ad.block (by rw [had]; simp [gOf]); simp; omega)))), Only.setCell (p := ⟨B10, 3, none⟩) (Only.setCell (p := ⟨B10, 2, none⟩) (Only.setCell (p := ⟨B10, 1, none⟩) (Only.setCell (p := ⟨B10, 0, none⟩) (Only.of_below hb6 [B10]) (by simp) _) (by simp) _) (by simp) _) (by simp) _⟩
              case rest =>
                obtain ⟨u9, rfl⟩ : ∃ u9, u9 = wc := ⟨_, rfl⟩
                clear RQ101 RQ102 HO10 ql101 ql102
                obtain ⟨Q101, Q102, j101, j102, rfl, o10, q101, q102, hbu9⟩ := hcut
                have hzu9 := hbu9.size
                replace R1 := Lib.hid (RS.only R1.out hbu9 (Nat.le_refl _) (fun _ x hx => by have := HP1L.out x hx; simp; omega))
                replace R2 := Lib.hid (RS.only R2.out hbu9 (Nat.le_refl _) (fun _ x hx => by have := HP2L.out x hx; simp; omega))
                replace HX3 := Lib.hid (Box.only hbu9 HX3.out HX3.out.lt (by simp; omega))
                replace HX4 := Lib.hid (Box.only hbu9 HX4.out HX4.out.lt (by simp; omega))
                replace HX5 := Lib.hid (Box.only hbu9 HX5.out HX5.out.lt (by simp; omega))
                replace HX6 := Lib.hid (Box.only hbu9 HX6.out HX6.out.lt (by simp; omega))
                replace HO7 := Lib.hid (hbu9.own HO7.out HO7.out.lt (by simp; omega))
                replace RQ71 := Lib.hid (RS.only RQ71.out hbu9 (Nat.le_refl _) (fun _ x hx => by have := ql71 x hx; simp; omega))
                replace RQ72 := Lib.hid (RS.only RQ72.out hbu9 (Nat.le_refl _) (fun _ x hx => by have := ql72 x hx; simp; omega))
                replace HBu := Lib.hid (Below.trans HBu.out (hbu9.below HBu.out.size (fun x hx => by simp at hx; omega)))
                have ql101 := RS.lt q101 hN1
                have ql102 := RS.lt q102 hN1
                have HO10 := Lib.hid o10
                have RQ101 := Lib.hid q101
                have RQ102 := Lib.hid q102
                clear o10 q101 q102 hbu9
                have hxy : sumsTo GA 30 (sumsTo GB 200 s N) N = sumsTo GB 200 (sumsTo GA 30 s N) N := (sums_swapN GA GB 30 200 HSS.out.1).symm
                have hxt : wtsTo GA (wtsTo GB t N) N = wtsTo GB (wtsTo GA t N) N := (wts_swapN GA GB HSS.out.2.1).symm
                rw [hxy] at RQ101
                rw [hxt] at RQ102
                have hX1 : (sumsTo GB 200 (sumsTo GA 30 s N) N).length = N := by rw [sums_len]; exact HS1.out.1
                have hX2 : (wtsTo GB (wtsTo GA t N) N).length = N := by rw [wts_len]; exact HS1.out.2.1
                have hXS : smallA 1000000000 (sumsTo GB 200 (sumsTo GA 30 s N) N) (wtsTo GB (wtsTo GA t N) N) := by
                  rw [← HGB.out]; exact (small_addN HS1.out.1 HS1.out.2.1 HS1.out.2.2 (by omega)).mono (by omega)
                have hXD : ¬ t = wtsTo GB (wtsTo GA t N) N := by
                  have := wts_differ (a := a) (b := b) (k := k) (r := r) (x := xa) (y := ya) (g' := GB) (t := t) (by rw [HSS.out.2.1, HNN.out]) ⟨by omega, by omega⟩ ⟨by omega, by omega⟩ hvf ⟨xa0, xa1⟩ ⟨ya0, ya1⟩ (fun n => by rw [← HGB.out]; exact (wgt_rng a k r xb yb n).1)
                  rw [wts_len, HSS.out.2.1, HGA.out] at this
                  exact this
                have hS1 := HSS.out.1
                have hS2 := HSS.out.2.1
                have hv : validAcc a b (sumsTo GB 200 (sumsTo GA 30 s N) N) (wtsTo GB (wtsTo GA t N) N) = true := valid_small ⟨by omega, by omega⟩ ⟨by omega, by omega⟩ (by rw [hX1, HNN.out]) (by rw [hX2, HNN.out]) hXS
                clear hxy hxt hXS
                generalize sumsTo GB 200 (sumsTo GA 30 s N) N = X at *
                generalize wtsTo GB (wtsTo GA t N) N = XT at *
                have HC1 : Hid (∀ wx : World, RS wx 1 Q71 N j71 (ints X) → RS wx 1 Q72 N j72 (ints XT) → RS wx 1 Q101 N j101 (ints X) → RS wx 1 Q102 N j102 (ints XT) → Calls Try.prog 33 #[vAccum a b (.slice Q71 N j71) (.slice Q72 N j72), vAccum a b (.slice Q101 N j101) (.slice Q102 N j102)] wx fun e w' => e = .returned (.bool true) ∧ Below wx.heap.size wx w') := fun wx h1 h2 h3 h4 => by
                  rw [← hX1] at h1 h3
                  have e2 : RS wx 1 Q72 XT.length j72 (ints XT) := by rw [hX2]; exact h2
                  have e4 : RS wx 1 Q102 XT.length j102 (ints XT) := by rw [hX2]; exact h4
                  have := I_SameAccum (W := a) (H := b) (W' := a) (H' := b) wx h1 e2 h3 e4
                  rw [hX1, hX2] at this
                  simpa [sameAccum] using this
                have HC2 : Hid (∀ wx : World, RS wx 1 Q71 N j71 (ints X) → RS wx 1 Q72 N j72 (ints XT) → Calls Try.prog 34 #[vAccum a b (.slice Q71 N j71) (.slice Q72 N j72)] wx fun e w' => e = .returned (.bool true) ∧ Below wx.heap.size wx w') := fun wx h1 h2 => by
                  rw [← hX1] at h1
                  have e2 : RS wx 1 Q72 XT.length j72 (ints XT) := by rw [hX2]; exact h2
                  have := I_IsValidAccum (W := a) (H := b) wx h1 e2
                  rw [hX1, hX2, hv] at this
                  exact this
                have HC3 : Hid (∀ wx : World, RS wx 1 P1 N k1 (ints s) → RS wx 1 P2 N k2 (ints t) → RS wx 1 Q71 N j71 (ints X) → RS wx 1 Q72 N j72 (ints XT) → Calls Try.prog 33 #[vAccum a b (.slice P1 N k1) (.slice P2 N k2), vAccum a b (.slice Q71 N j71) (.slice Q72 N j72)] wx fun e w' => e = .returned (.bool false) ∧ Below wx.heap.size wx w') := fun wx h1 h2 h3 h4 => by
                  have e1 : RS wx 1 P1 s.length k1 (ints s) := by rw [hS1]; exact h1
                  have e2 : RS wx 1 P2 t.length k2 (ints t) := by rw [hS2]; exact h2
                  have e3 : RS wx 1 Q71 X.length j71 (ints X) := by rw [hX1]; exact h3
                  have e4 : RS wx 1 Q72 XT.length j72 (ints XT) := by rw [hX2]; exact h4
                  have := I_SameAccum (W := a) (H := b) (W' := a) (H' := b) wx e1 e2 e3 e4
                  rw [hX1, hX2, hS1, hS2] at this
                  have hf : sameAccum a b s t a b X XT = false := by unfold sameAccum; simp [hXD]
                  rw [hf] at this
                  exact this
                clear hX1 hX2 hXD hS1 hS2 hv
                obtain ⟨z3, e0, e1, e2, e3⟩ := HX3.out.open4
                have o0 := HO7.out.cell 0
                have o1 := HO7.out.cell 1
                have o2 := HO7.out.cell 2
                have o3 := HO7.out.cell 3
                have o4 := HO10.out.cell 0
                have o5 := HO10.out.cell 1
                have o6 := HO10.out.cell 2
                have o7 := HO10.out.cell 3
                simp only [List.getElem?_cons_zero, List.getElem?_cons_succ] at o0 o1 o2 o3 o4 o5 o6 o7
                have lo7 := HO7.out.lt
                have lo10 := HO10.out.lt
                go_wp2_with fail
                refine (HC1.out _ RQ71.out RQ72.out RQ101.out RQ102.out).mono ?_
                rintro e v1 ⟨rfl, hv1⟩
                have hzv1 := hv1.size
                have y7 := HO7.out.step hv1
                have y0 := y7.cell 0
                have y1 := y7.cell 1
                have y2 := y7.cell 2
                have y3 := y7.cell 3
                simp only [List.getElem?_cons_zero, List.getElem?_cons_succ] at y0 y1 y2 y3
                have x3 := Box.step hv1 HX3.out
                obtain ⟨zz3, w0, w1, w2, w3⟩ := x3.open4
                have RA1 := Lib.hid (RS.step hv1 RQ71.out)
                have RA2 := Lib.hid (RS.step hv1 RQ72.out)
                have RB1 := Lib.hid (RS.step hv1 R1.out)
                have RB2 := Lib.hid (RS.step hv1 R2.out)
                have HY7 := Lib.hid y7
                have HXX3 := Lib.hid x3
                clear e0 e1 e2 e3 o0 o1 o2 o3 o4 o5 o6 o7
                go_wp2_with fail
                refine (HC2.out _ RA1.out RA2.out).mono ?_
                rintro e v2 ⟨rfl, hv2⟩
                have hzv2 := hv2.size
                have z7 := HY7.out.step hv2
                have z0 := z7.cell 0
                have z1 := z7.cell 1
                have z2 := z7.cell 2
                have z3' := z7.cell 3
                simp only [List.getElem?_cons_zero, List.getElem?_cons_succ] at z0 z1 z2 z3'
                obtain ⟨zz4, t0, t1, t2, t3⟩ := (Box.step hv2 HXX3.out).open4
                clear y0 y1 y2 y3 w0 w1 w2 w3 y7 x3
                go_wp2_with fail
                refine (HC3.out _ (RS.step hv2 RB1.out) (RS.step hv2 RB2.out) (RS.step hv2 RA1.out) (RS.step hv2 RA2.out)).mono ?_
                rintro e v3 ⟨rfl, hv3⟩
                have HBF := Lib.hid (Below.trans HBu.out (Below.trans hv1 (Below.trans hv2 (hv3.mono hzv2) |>.mono hzv1) |>.mono HBu.out.size))
                clear hv1 hv2 hv3
                go_wp2_with fail
                go_ret
                exact ⟨rfl, HBF.out⟩
set_option maxRecDepth 100000 in
theorem FnAddSample_walk : LawWalk 6 [35] := bytes_walk L_FnAddSample
end Go.Proofs.Ythfnldjldfkmnaa
