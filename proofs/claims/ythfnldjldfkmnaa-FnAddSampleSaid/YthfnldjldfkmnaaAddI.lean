/- Adding a sample in place: the program. -/
import Derived.Test.YthfnldjldfkmnaaAddP
import Derived.Test.YthfnldjldfkmnaaPutP
import Derived.Laws.LoneSync
import Derived.Test.YthfnldjldfkmnaaPhase
import Derived.Deep.DeepCutAuto
namespace Go.Proofs.Ythfnldjldfkmnaa
open Go.RowKit
set_option linter.unusedVariables false
set_option maxRecDepth 100000
set_option maxHeartbeats 2000000 in
theorem I_atomAdd {g : Nat} {n : Int} (w : World) (hc : w.cell? ⟨g, 0, none⟩ = some (.int .i64 n)) (hz : w.frozen? ⟨g, 0, none⟩ = false) (hn : 0 ≤ n ∧ n ≤ 1000) :
    Calls Try.prog 166 #[.pointer (some ⟨g, 0, none⟩), .int .i64 1] w fun e w' => e = .returned (.int .i64 (n + 1)) ∧ w' = w.setCell ⟨g, 0, none⟩ (.int .i64 (n + 1)) := by
  have y0' : IntKind.i64.wrap (n + 1) = n + 1 := IntWalk.i64_in _ (by omega)
  have hadd := run_call_add (P := Try.prog) Try.func183 (by kernel_rfl) (by kernel_rfl) (by kernel_rfl) .i64 (by kernel_rfl) (y := 1) (s := n + 1) hc hz (by simp [go_sem, y0'])
  go_enter Try.func166, Try.ntmps166
  go_wp2
  go_ret
  exact ⟨rfl, rfl⟩
set_option maxHeartbeats 2000000 in
theorem I_atomLoad {g : Nat} {n : Int} (w : World) (hc : w.cell? ⟨g, 0, none⟩ = some (.int .i64 n)) :
    Calls Try.prog 167 #[.pointer (some ⟨g, 0, none⟩)] w fun e w' => e = .returned (.int .i64 n) ∧ w = w' := by
  have hld := run_call_load (P := Try.prog) Try.func184 (by kernel_rfl) (by kernel_rfl) (by kernel_rfl) .i64 (by kernel_rfl) hc
  go_enter Try.func167, Try.ntmps167
  go_wp2
  go_ret
  exact ⟨rfl, rfl⟩
set_option maxHeartbeats 8000000 in
theorem I_add {a b : Nat} {k r x y tt u v color : Int} {g1 g2 k1 k2 : Nat} {s t : List Int} {d1 d2 : List Value} (w : World) (ha : 1 ≤ a ∧ a ≤ 12) (hb : 1 ≤ b ∧ b ≤ 12) (hs : s.length = a * b) (ht : t.length = a * b)
    (hv : ∀ n (h1 : n < s.length) (h2 : n < t.length), (0 ≤ t[n] ∧ t[n] ≤ 1000000000) ∧ 0 ≤ s[n] ∧ s[n] ≤ 256 * t[n]) (hc : 0 ≤ color ∧ color ≤ 256) (hvf : validF k r = true) (hx : 0 ≤ x ∧ x ≤ 191) (hy : 0 ≤ y ∧ y ≤ 191)
    (h1 : Own w g1 3 (ints s ++ d1)) (h2 : Own w g2 3 (ints t ++ d2)) (hne : g1 ≠ g2) (hk1 : s.length ≤ k1 ∧ k1 ≤ maxLen) (hk2 : t.length ≤ k2 ∧ k2 ≤ maxLen) :
    Calls Try.prog 111 #[vAccum a b (.slice (some ⟨g1, 0, none⟩) s.length k1) (.slice (some ⟨g2, 0, none⟩) t.length k2), vFilter k r, vSample x y tt u v, .int .i64 color] w fun e w' =>
      e = .returned (.bool (belowTo (wgt a k r x y) t t.length)) ∧ Own w' g1 3 (ints (sumsTo (wgt a k r x y) color s s.length) ++ d1) ∧ Own w' g2 3 (ints (wtsTo (wgt a k r x y) t t.length) ++ d2) ∧ Only w.heap.size [g1, g2] w w' := by
  obtain ⟨a1, a2⟩ := ha
  obtain ⟨b1, b2⟩ := hb
  obtain ⟨c1, c2⟩ := hc
  obtain ⟨x1, x2⟩ := hx
  obtain ⟨y1, y2⟩ := hy
  obtain ⟨k1a, k1b⟩ := hk1
  obtain ⟨k2a, k2b⟩ := hk2
  unfold maxLen at k1b k2b
  have hab : a * b ≤ 12 * 12 := Nat.mul_le_mul a2 b2
  have HST : Hid (s.length = t.length) := by show _ = _; omega
  have HV := Lib.hid hv
  have hl1 := h1.lt
  have hl2 := h2.lt
  have hs144 : s.length ≤ 144 := by omega
  have ht144 : t.length ≤ 144 := by omega
  have HDM : Hid (∀ n, n < s.length → n / a < b ∧ n % a < a) := fun n hn => ⟨Nat.div_lt_of_lt_mul (by omega), Nat.mod_lt _ (by omega)⟩
  clear hs ht hv hab
  generalize hG : wgt a k r x y = G
  have HGR : Hid (∀ n : Nat, weightF k r ((n % a : Nat) : Int) ((n / a : Nat) : Int) x y = G n ∧ 0 ≤ G n ∧ G n ≤ 6400) := fun n => by rw [← hG]; exact ⟨rfl, wgt_rng a k r x y n⟩
  clear hG
  have HW : Hid (∀ (i j : Int) (wx : World), 0 ≤ i → i ≤ 11 → 0 ≤ j → j ≤ 11 → Calls Try.prog 107 #[vFilter k r, .int .i64 i, .int .i64 j, vSample x y tt u v] wx fun e w' => e = .returned (.int .i64 (weightF k r i j x y)) ∧ Below wx.heap.size wx w') := fun i j wx i1 i2 j1 j2 => I_weight k r i j x y tt u v hvf (by unfold okW; rw [inB_mk i1 i2, inB_mk j1 j2, inB_mk x1 x2, inB_mk y1 y2]; rfl) wx
  have HO1 : Hid (Own ((((w.alloc (.cells #[.int .i64 a, .int .i64 b, .slice (some ⟨g1, 0, none⟩) s.length k1, .slice (some ⟨g2, 0, none⟩) t.length k2] 61)).alloc (.cells #[.int .i64 k, .int .i64 r] 48)).alloc (.cells #[.int .i64 x, .int .i64 y, .int .i64 tt, .int .i64 u, .int .i64 v] 51)).alloc (.cells #[.int .i64 0] 209)) g1 3 (ints (sumsTo G color s 0) ++ d1)) := Own.alloc (Own.alloc (Own.alloc (Own.alloc h1 _) _) _) _
  have HO2 : Hid (Own ((((w.alloc (.cells #[.int .i64 a, .int .i64 b, .slice (some ⟨g1, 0, none⟩) s.length k1, .slice (some ⟨g2, 0, none⟩) t.length k2] 61)).alloc (.cells #[.int .i64 k, .int .i64 r] 48)).alloc (.cells #[.int .i64 x, .int .i64 y, .int .i64 tt, .int .i64 u, .int .i64 v] 51)).alloc (.cells #[.int .i64 0] 209)) g2 3 (ints (wtsTo G t 0) ++ d2)) := Own.alloc (Own.alloc (Own.alloc (Own.alloc h2 _) _) _) _
  have HX0 : Hid (Box ((((w.alloc (.cells #[.int .i64 a, .int .i64 b, .slice (some ⟨g1, 0, none⟩) s.length k1, .slice (some ⟨g2, 0, none⟩) t.length k2] 61)).alloc (.cells #[.int .i64 k, .int .i64 r] 48)).alloc (.cells #[.int .i64 x, .int .i64 y, .int .i64 tt, .int .i64 u, .int .i64 v] 51)).alloc (.cells #[.int .i64 0] 209)) w.heap.size [.int .i64 a, .int .i64 b, .slice (some ⟨g1, 0, none⟩) s.length k1, .slice (some ⟨g2, 0, none⟩) t.length k2]) := Box.mk4 (by simp; omega) (by go_simp) (by go_simp) (by go_simp) (by go_simp)
  have HX1 : Hid (Box ((((w.alloc (.cells #[.int .i64 a, .int .i64 b, .slice (some ⟨g1, 0, none⟩) s.length k1, .slice (some ⟨g2, 0, none⟩) t.length k2] 61)).alloc (.cells #[.int .i64 k, .int .i64 r] 48)).alloc (.cells #[.int .i64 x, .int .i64 y, .int .i64 tt, .int .i64 u, .int .i64 v] 51)).alloc (.cells #[.int .i64 0] 209)) (w.heap.size + 1) [.int .i64 k, .int .i64 r]) := Box.mk2 (by simp) (by go_simp) (by go_simp)
  have HX2 : Hid (Box ((((w.alloc (.cells #[.int .i64 a, .int .i64 b, .slice (some ⟨g1, 0, none⟩) s.length k1, .slice (some ⟨g2, 0, none⟩) t.length k2] 61)).alloc (.cells #[.int .i64 k, .int .i64 r] 48)).alloc (.cells #[.int .i64 x, .int .i64 y, .int .i64 tt, .int .i64 u, .int .i64 v] 51)).alloc (.cells #[.int .i64 0] 209)) (w.heap.size + 1 + 1) [.int .i64 x, .int .i64 y, .int .i64 tt, .int .i64 u, .int .i64 v]) := Box.mk5 (by simp) (by go_simp) (by go_simp) (by go_simp) (by go_simp) (by go_simp)
  have HA : Hid (Own ((((w.alloc (.cells #[.int .i64 a, .int .i64 b, .slice (some ⟨g1, 0, none⟩) s.length k1, .slice (some ⟨g2, 0, none⟩) t.length k2] 61)).alloc (.cells #[.int .i64 k, .int .i64 r] 48)).alloc (.cells #[.int .i64 x, .int .i64 y, .int .i64 tt, .int .i64 u, .int .i64 v] 51)).alloc (.cells #[.int .i64 0] 209)) (w.heap.size + 1 + 1 + 1) 209 [.int .i64 0]) := Own.at_new (cs := #[_]) (by simp)
  have HOO : Hid (Only w.heap.size [g1, g2] w ((((w.alloc (.cells #[.int .i64 a, .int .i64 b, .slice (some ⟨g1, 0, none⟩) s.length k1, .slice (some ⟨g2, 0, none⟩) t.length k2] 61)).alloc (.cells #[.int .i64 k, .int .i64 r] 48)).alloc (.cells #[.int .i64 x, .int .i64 y, .int .i64 tt, .int .i64 u, .int .i64 v] 51)).alloc (.cells #[.int .i64 0] 209))) := Only.alloc (Only.alloc (Only.alloc (Only.alloc (Only.refl _ _ _) (Nat.le_refl _) _) (by simp) _) (by simp; omega) _) (by simp; omega) _
  have hZ0 : ((((w.alloc (.cells #[.int .i64 a, .int .i64 b, .slice (some ⟨g1, 0, none⟩) s.length k1, .slice (some ⟨g2, 0, none⟩) t.length k2] 61)).alloc (.cells #[.int .i64 k, .int .i64 r] 48)).alloc (.cells #[.int .i64 x, .int .i64 y, .int .i64 tt, .int .i64 u, .int .i64 v] 51)).alloc (.cells #[.int .i64 0] 209)).heap.size = w.heap.size + 4 := by simp
  have HX0c : Hid (((((w.alloc (.cells #[.int .i64 a, .int .i64 b, .slice (some ⟨g1, 0, none⟩) s.length k1, .slice (some ⟨g2, 0, none⟩) t.length k2] 61)).alloc (.cells #[.int .i64 k, .int .i64 r] 48)).alloc (.cells #[.int .i64 x, .int .i64 y, .int .i64 tt, .int .i64 u, .int .i64 v] 51)).alloc (.cells #[.int .i64 0] 209)).cell? ⟨w.heap.size, 2, none⟩ = some (.slice (some ⟨g1, 0, none⟩) s.length k1)) := by show _ = _; go_simp
  clear h1 h2 hvf
  go_enter Try.func111, Try.ntmps111
  go_wp2_with fail
  generalize (((w.alloc (.cells #[.int .i64 a, .int .i64 b, .slice (some ⟨g1, 0, none⟩) s.length k1, .slice (some ⟨g2, 0, none⟩) t.length k2] 61)).alloc (.cells #[.int .i64 k, .int .i64 r] 48)).alloc (.cells #[.int .i64 x, .int .i64 y, .int .i64 tt, .int .i64 u, .int .i64 v] 51)).alloc (.cells #[.int .i64 0] 209) = W0 at *
  go_loopw [10, 11, 15] (fun _ _ i wr => ∃ (n c : Nat), n ≤ s.length ∧ i = .int .i64 n ∧ c ≤ n ∧ decide (c = 0) = belowTo G t n ∧ Own wr (w.heap.size + 1 + 1 + 1) 209 [.int .i64 c] ∧ Own wr g1 3 (ints (sumsTo G color s n) ++ d1) ∧ Own wr g2 3 (ints (wtsTo G t n) ++ d2) ∧ Only W0.heap.size [g1, g2, w.heap.size + 1 + 1 + 1] W0 wr) (fun _ _ i _ => s.length - (intOf i).toNat)
  case atStart => exact ⟨0, 0, Nat.zero_le _, rfl, Nat.le_refl _, rfl, HA.out, HO1.out, HO2.out, Only.refl _ _ _⟩
  case round =>
    obtain ⟨n, c, hn, rfl, hcn, hct, oa, o1, o2, hO⟩ := hrel
    have hz := hO.size
    have bx0 := HX0.out.only hO (by omega) (by simp; omega)
    have bx1 := HX1.out.only hO (by omega) (by simp; omega)
    have bx2 := HX2.out.only hO (by omega) (by simp; omega)
    obtain ⟨z0, e00, e01, e02, e03⟩ := bx0.open4
    obtain ⟨z1, e10, e11⟩ := bx1.open2
    obtain ⟨z2, e20, e21, e22, e23, e24⟩ := bx2.open5
    have P0 := Lib.hid oa
    have P1 := Lib.hid o1
    have P2 := Lib.hid o2
    have HO := Lib.hid hO
    have HB0 := Lib.hid bx0
    have HCT := Lib.hid hct
    have y0' : IntKind.i64.wrap ((n : Int) + 1) = (n : Int) + 1 := IntWalk.i64_in _ (by omega)
    have ca := oa.cell 0
    simp only [List.getElem?_cons_zero] at ca
    have hal := oa.lt
    clear oa o1 o2 hO bx0 bx1 bx2 hct
    by_cases hlt : n < s.length
    · have hZt : n < t.length := by have := HST.out; omega
      obtain ⟨dd, dm⟩ := HDM.out n hlt
      obtain ⟨w1', w2', w3'⟩ := HGR.out n
      obtain ⟨D, hD⟩ : ∃ D, n / a = D := ⟨_, rfl⟩
      obtain ⟨M, hM⟩ : ∃ M, n % a = M := ⟨_, rfl⟩
      rw [hD] at dd w1'
      rw [hM] at dm w1'
      obtain ⟨dv1, dv2, dv3⟩ := divs_of hD hM a1
      have HWN : Hid (∀ wx, Calls Try.prog 107 #[vFilter k r, .int .i64 M, .int .i64 D, vSample x y tt u v] wx fun e w' => e = .returned (.int .i64 (G n)) ∧ Below wx.heap.size wx w') := fun wx => by rw [← w1']; exact HW.out M D wx (by omega) (by omega) (by omega) (by omega)
      obtain ⟨⟨t0, t1⟩, s0, s1⟩ := HV.out n hlt hZt
      have hgc : 0 ≤ G n * color ∧ G n * color ≤ 6400 * 256 := ⟨Int.mul_nonneg w2' c1, Int.mul_le_mul w3' c2 c1 (by omega)⟩
      obtain ⟨m0, m1⟩ := hgc
      have HSET1 : Hid ((ints (sumsTo G color s n)).set n (.int .i64 (s[n] + G n * color)) = ints (sumsTo G color s (n + 1))) := sumsTo_set hlt
      have HSET2 : Hid ((ints (wtsTo G t n)).set n (.int .i64 (t[n] + G n)) = ints (wtsTo G t (n + 1))) := wtsTo_set hZt
      have HBT : Hid (belowTo G t (n + 1) = (belowTo G t n && decide (t[n] + G n ≤ 1000000000))) := by show _ = _; rw [belowTo_succ, adT, atI, getD_at hZt]
      have hln1 : n < (ints (sumsTo G color s n)).length := by simp [pixTo_len]; omega
      have hln2 : n < (ints (wtsTo G t n)).length := by simp [pixTo_len]; omega
      have HC1 : Hid (∀ wx, Own wx g1 3 (ints (sumsTo G color s n) ++ d1) → wx.cell? ⟨g1, n, none⟩ = some (.int .i64 s[n])) := fun wx hx => by rw [hx.cell, List.getElem?_append_left hln1, sumsTo_at G color hlt]
      have HC2 : Hid (∀ wx, Own wx g2 3 (ints (wtsTo G t n) ++ d2) → wx.cell? ⟨g2, n, none⟩ = some (.int .i64 t[n])) := fun wx hx => by rw [hx.cell, List.getElem?_append_left hln2, wtsTo_at G hZt]
      have HC3 : Hid (∀ wx, Own wx g2 3 (ints (wtsTo G t (n + 1)) ++ d2) → wx.cell? ⟨g2, n, none⟩ = some (.int .i64 (t[n] + G n))) := fun wx hx => by rw [hx.cell, List.getElem?_append_left (by simp [pixTo_len]; omega), ← HSET2.out, List.getElem?_set_self hln2]
      have HL1 := Lib.hid hln1
      have HL2 := Lib.hid hln2
      have HREL : Hid (n + 1 ≤ s.length) := hlt
      have u1' : IntKind.i64.wrap (D : Int) = D := IntWalk.i64_in _ (by omega)
      have dv4 : ¬ (a : Int) = 0 := by omega
      have dv5 : ¬ a = 0 := by omega
      have u2' : IntKind.i64.wrap (M : Int) = M := IntWalk.i64_in _ (by omega)
      clear hD hM hln1 hln2 w1' dd dm
      generalize s[n] = v1 at *
      generalize t[n] = v2 at *
      generalize G n = gg at *
      have i3 : (0 : Int) ≤ n := by omega
      have i4 : (n : Int) < s.length := by omega
      have i5 : (n : Int) < t.length := by omega
      have y2' : IntKind.i64.wrap (gg * color) = gg * color := IntWalk.i64_in _ (by omega)
      have y3' : IntKind.i64.wrap (v1 + gg * color) = v1 + gg * color := IntWalk.i64_in _ (by omega)
      have y4' : IntKind.i64.wrap (v2 + gg) = v2 + gg := IntWalk.i64_in _ (by omega)
      go_wp2_with fail
      refine wp_region_M (S := (fun w' => w'.cell? ⟨w.heap.size, 0, none⟩ = some (.int .i64 a) ∧ w'.cell? ⟨w.heap.size + 1, 0, none⟩ = some (.int .i64 k) ∧ w'.cell? ⟨w.heap.size + 1, 1, none⟩ = some (.int .i64 r) ∧ w'.cell? ⟨w.heap.size + 1 + 1, 0, none⟩ = some (.int .i64 x) ∧ w'.cell? ⟨w.heap.size + 1 + 1, 1, none⟩ = some (.int .i64 y) ∧ w'.cell? ⟨w.heap.size + 1 + 1, 2, none⟩ = some (.int .i64 tt) ∧ w'.cell? ⟨w.heap.size + 1 + 1, 3, none⟩ = some (.int .i64 u) ∧ w'.cell? ⟨w.heap.size + 1 + 1, 4, none⟩ = some (.int .i64 v))) 11 (by kernel_rfl) (by (try dsimp only); refine ⟨?_, ?_, ?_, ?_, ?_, ?_, ?_, ?_⟩ <;> (go_simp; done)) (fun hHeld => ?_)
      refine wpAnyM_take (i := 0) (v := ?_) rfl (by kernel_rfl) (by kernel_rfl) (by kernel_rfl) (by kernel_rfl) (fun _ _ _ h => h) (Or.inl ⟨by rfl, ?_⟩) (by assumption) ?_; rotate_left; focus (intro w hSw; (try dsimp only at hSw); go_simp; try with_reducible rfl)
      refine wpAnyM_take (i := 1) (v := ?_) rfl (by kernel_rfl) (by kernel_rfl) (by kernel_rfl) (by kernel_rfl) (fun _ _ _ h => h) (Or.inl ⟨by rfl, ?_⟩) (by assumption) ?_; rotate_left; focus (intro w hSw; (try dsimp only at hSw); go_simp; try with_reducible rfl)
      refine wpAnyM_take (i := 2) (v := ?_) rfl (by kernel_rfl) (by kernel_rfl) (by kernel_rfl) (by kernel_rfl) (fun _ _ _ h => h) (Or.inl ⟨by rfl, ?_⟩) (by assumption) ?_; rotate_left; focus (intro w hSw; (try dsimp only at hSw); go_simp; try with_reducible rfl)
      refine wpAnyM_take (i := 3) (v := ?_) rfl (by kernel_rfl) (by kernel_rfl) (by kernel_rfl) (by kernel_rfl) (fun _ _ _ h => h) (Or.inl ⟨by rfl, ?_⟩) (by assumption) ?_; rotate_left; focus (intro w hSw; (try dsimp only at hSw); go_simp; try with_reducible rfl)
      refine wpAnyM_take (i := 4) (v := ?_) rfl (by kernel_rfl) (by kernel_rfl) (by kernel_rfl) (by kernel_rfl) (fun _ _ _ h => h) (Or.inl ⟨by rfl, ?_⟩) (by assumption) ?_; rotate_left; focus (intro w hSw; (try dsimp only at hSw); go_simp; try with_reducible rfl)
      refine wpAnyM_take (i := 5) (v := ?_) rfl (by kernel_rfl) (by kernel_rfl) (by kernel_rfl) (by kernel_rfl) (fun _ _ _ h => h) (Or.inl ⟨by rfl, ?_⟩) (by assumption) ?_; rotate_left; focus (intro w hSw; (try dsimp only at hSw); go_simp; try with_reducible rfl)
      refine wpAnyM_take (i := 6) (v := ?_) rfl (by kernel_rfl) (by kernel_rfl) (by kernel_rfl) (by kernel_rfl) (fun _ _ _ h => h) (Or.inl ⟨by rfl, ?_⟩) (by assumption) ?_; rotate_left; focus (intro w hSw; (try dsimp only at hSw); go_simp; try with_reducible rfl)
      refine wpAnyM_take (i := 7) (v := ?_) rfl (by kernel_rfl) (by kernel_rfl) (by kernel_rfl) (by kernel_rfl) (fun _ _ _ h => h) (Or.inl ⟨by rfl, ?_⟩) (by assumption) ?_; rotate_left; focus (intro w hSw; (try dsimp only at hSw); go_simp; try with_reducible rfl)
      refine wpAnyM_take (i := 8) (v := ?_) rfl (by kernel_rfl) (by kernel_rfl) (by kernel_rfl) (by kernel_rfl) (fun _ _ _ h => h) (Or.inl ⟨by rfl, ?_⟩) (by assumption) ?_; rotate_left; focus (intro w hSw; (try dsimp only at hSw); go_simp; try with_reducible rfl)
      refine wpAnyM_take (i := 9) (v := ?_) rfl (by kernel_rfl) (by kernel_rfl) (by kernel_rfl) (by kernel_rfl) (fun _ _ _ h => h) (Or.inl ⟨by rfl, ?_⟩) (by assumption) ?_; rotate_left; focus (intro w hSw; (try dsimp only at hSw); go_simp; try with_reducible rfl)
      refine wpAnyM_one (i := 10) rfl (by kernel_rfl) (fun K10 hK10 => ?_)
      go_simp
      refine (HWN.out _).mono ?_
      rintro e w5 ⟨rfl, hb5⟩
      have hz5 := hb5.size
      (try simp at hz5)
      have c5 := fun o => hb5.cell (p := ⟨w.heap.size, o, none⟩) (by first | omega | (simp <;> omega))
      have c6 := fun o => hb5.cell (p := ⟨w.heap.size + 1, o, none⟩) (by first | omega | (simp <;> omega))
      have c7 := fun o => hb5.cell (p := ⟨w.heap.size + 1 + 1, o, none⟩) (by first | omega | (simp <;> omega))
      dsimp only
      refine hK10.out _ _ (fun _ => (by (try dsimp only); refine ⟨?_, ?_, ?_, ?_, ?_, ?_, ?_, ?_⟩ <;> (go_simp; done))) (fun hHeld10 => ?_)
      have hX10 := hHeld10 (by decide)
      refine wpAnyM_one (i := 11) rfl (by kernel_rfl) (fun K11 hK11 => ?_)
      go_simp
      refine hK11.out _ _ (fun h => absurd rfl h) (fun hHeld11 => ?_)
      refine wpAnyM_done (by kernel_rfl) ?_ _
      clear hHeld hX10 hHeld10 hHeld11
      have hB5 : Below wr.heap.size wr w5 := (by repeat (first | (with_reducible exact Below.refl _ _) | (with_reducible exact hb5) | (with_reducible assumption) | ((with_reducible refine Below.alloc ?_ ?_ _); rotate_left; (first | omega | (simp <;> omega))) | ((with_reducible refine Below.setCell ?_ ?_ _); rotate_left; (first | omega | (simp <;> omega))) | (with_reducible refine below_drewN ?_ _) | (with_reducible refine Below.drew ?_) | ((with_reducible refine Below.step (by assumption) ?_ ?_); rotate_left; (first | omega | (simp <;> omega)))))
      have o1 := Own.step hB5 P1.out
      have o2 := Own.step hB5 P2.out
      have oa := Own.step hB5 P0.out
      have bx0 := Box.step hB5 HB0.out
      obtain ⟨z0'', g00, g01, g02, g03⟩ := bx0.open4
      have x1 := HC1.out _ o1
      have fz1 : w5.frozen? ⟨g1, n, none⟩ = false := o1.frozen _
      have HO5 := Lib.hid (Only.trans HO.out (Only.of_below hB5 [g1, g2, w.heap.size + 1 + 1 + 1]) hz (fun x hx => hx))
      have R1 := Lib.hid o1
      have R2 := Lib.hid o2
      have RA := Lib.hid oa
      have HB5 := Lib.hid bx0
      clear hb5 hB5 o1 o2 oa bx0 c5 c6 c7 e00 e01 e02 e03 e10 e11 e20 e21 e22 e23 e24 ca dv1 dv2 dv3
      go_upto_region 7 with fail
      have q1 : Own (w5.setCell ⟨g1, n, none⟩ (.int .i64 (v1 + gg * color))) g1 3 (ints (sumsTo G color s (n + 1)) ++ d1) := by rw [← HSET1.out]; exact Own.set_left R1.out _ HL1.out _
      have q2 : Own (w5.setCell ⟨g1, n, none⟩ (.int .i64 (v1 + gg * color))) g2 3 (ints (wtsTo G t n) ++ d2) := Own.far R2.out (fun e => hne e.symm) _
      have qa : Own (w5.setCell ⟨g1, n, none⟩ (.int .i64 (v1 + gg * color))) (w.heap.size + 1 + 1 + 1) 209 [.int .i64 c] := Own.far RA.out (by simp; omega) _
      have q3 : Box (w5.setCell ⟨g1, n, none⟩ (.int .i64 (v1 + gg * color))) w.heap.size [.int .i64 a, .int .i64 b, .slice (some ⟨g1, 0, none⟩) s.length k1, .slice (some ⟨g2, 0, none⟩) t.length k2] := Box.only (Only.setCell (B := w5.heap.size) (p := ⟨g1, n, none⟩) (Only.refl _ [g1] w5) (by simp) _) HB5.out HB5.out.lt (by simp; omega)
      have q4 : Only W0.heap.size [g1, g2, w.heap.size + 1 + 1 + 1] W0 (w5.setCell ⟨g1, n, none⟩ (.int .i64 (v1 + gg * color))) := Only.setCell (p := ⟨g1, n, none⟩) HO5.out (by simp) _
      generalize w5.setCell ⟨g1, n, none⟩ (.int .i64 (v1 + gg * color)) = w6 at *
      obtain ⟨z6, h00, h01, h02, h03⟩ := q3.open4
      have x2 := HC2.out _ q2
      have fz2 : w6.frozen? ⟨g2, n, none⟩ = false := q2.frozen _
      have S1 := Lib.hid q1
      have S2 := Lib.hid q2
      have SA := Lib.hid qa
      have S3 := Lib.hid q3
      have S4 := Lib.hid q4
      clear q1 q2 q3 q4 qa g00 g01 g02 g03 x1 fz1
      go_upto_region 8 with fail
      have q1 : Own (w6.setCell ⟨g2, n, none⟩ (.int .i64 (v2 + gg))) g1 3 (ints (sumsTo G color s (n + 1)) ++ d1) := Own.far S1.out hne _
      have q2 : Own (w6.setCell ⟨g2, n, none⟩ (.int .i64 (v2 + gg))) g2 3 (ints (wtsTo G t (n + 1)) ++ d2) := by rw [← HSET2.out]; exact Own.set_left S2.out _ HL2.out _
      have qa : Own (w6.setCell ⟨g2, n, none⟩ (.int .i64 (v2 + gg))) (w.heap.size + 1 + 1 + 1) 209 [.int .i64 c] := Own.far SA.out (by simp; omega) _
      have q3 : Box (w6.setCell ⟨g2, n, none⟩ (.int .i64 (v2 + gg))) w.heap.size [.int .i64 a, .int .i64 b, .slice (some ⟨g1, 0, none⟩) s.length k1, .slice (some ⟨g2, 0, none⟩) t.length k2] := Box.only (Only.setCell (B := w6.heap.size) (p := ⟨g2, n, none⟩) (Only.refl _ [g2] w6) (by simp) _) S3.out S3.out.lt (by simp; omega)
      have q4 : Only W0.heap.size [g1, g2, w.heap.size + 1 + 1 + 1] W0 (w6.setCell ⟨g2, n, none⟩ (.int .i64 (v2 + gg))) := Only.setCell (p := ⟨g2, n, none⟩) S4.out (by simp) _
      generalize w6.setCell ⟨g2, n, none⟩ (.int .i64 (v2 + gg)) = w7 at *
      obtain ⟨z7, j00, j01, j02, j03⟩ := q3.open4
      have x3 := HC3.out _ q2
      have ca7 := qa.cell 0
      simp only [List.getElem?_cons_zero] at ca7
      have fa7 := qa.frozen 0
      have T1 := Lib.hid q1
      have T2 := Lib.hid q2
      have TA := Lib.hid qa
      have T4 := Lib.hid q4
      clear q1 q2 q3 q4 qa h00 h01 h02 h03 x2 fz2
      by_cases hgt : v2 + gg ≤ 1000000000
      · have hgt' : ¬ 1000000000 < v2 + gg := by omega
        have HF : Hid (decide (c = 0) = belowTo G t (n + 1)) := by show _ = _; rw [HBT.out, ← HCT.out]; simp [hgt]
        go_wp2_with fail
        go_roundw
        case rel => exact ⟨n + 1, c, HREL.out, by go_num, by omega, HF.out, TA.out, T1.out, T2.out, T4.out⟩
        case measure => simp [intOf]; omega
      · have hgt' : 1000000000 < v2 + gg := by omega
        have HF : Hid (decide (c + 1 = 0) = belowTo G t (n + 1)) := by show _ = _; rw [HBT.out]; simp [hgt]
        have hc1 : ((c + 1 : Nat) : Int) = (c : Int) + 1 := by omega
        have HC1' := Lib.hid hc1
        clear hc1
        go_wp2_with fail
        refine (I_atomAdd (n := c) _ ca7 fa7 (by omega)).mono ?_
        rintro e w8 ⟨rfl, rfl⟩
        go_wp2_with fail
        go_roundw
        case rel => exact ⟨n + 1, c + 1, HREL.out, by go_num, by omega, HF.out, by rw [HC1'.out]; exact Own.set_ TA.out 0 _, Own.far T1.out (by simp; omega) _, Own.far T2.out (by simp; omega) _, Only.setCell (p := ⟨w.heap.size + 1 + 1 + 1, 0, none⟩) T4.out (by simp) _⟩
        case measure => simp [intOf]; omega
    · obtain rfl : n = s.length := by omega
      go_wp2_with fail
      refine (I_atomLoad (n := c) _ ca).mono ?_
      rintro e w' ⟨rfl, rfl⟩
      go_wp2_with fail
      go_ret
      have hst := HST.out
      refine ⟨ret_bool (by rw [← hst, ← HCT.out, Bool.eq_iff_iff]; simp), P1.out, by rw [← hst]; exact P2.out, Only.trans HOO.out (HO.out.mono (show w.heap.size ≤ _ by omega) (fun x hx => by simp at hx ⊢; omega)) (Nat.le_refl _) (fun x hx => hx)⟩
end Go.Proofs.Ythfnldjldfkmnaa
