/- MADE BY PROGRAM (gendrec.py). The reference's draw of a record: its line is that of a record. -/
import Derived.Test.YtlepnjahpmlccaaDoorBytes
import Derived.Test.YtlepnjahpmlccaaDoorPhase
import Derived.Test.YtlepnjahpmlccaaDoorTxtL
import Derived.Deep.RegionHeld3
namespace Go.Proofs.YtlepnjahpmlccaaDoor
open Go.RowKit
set_option linter.unusedVariables false
set_option maxRecDepth 20000
theorem allIn_snocR {l : List Int} {x lo hi : Int} (h : allIn l lo hi = true) (h1 : lo ≤ x) (h2 : x ≤ hi) : allIn (l ++ [x]) lo hi = true := by
  unfold allIn at *
  rw [List.all_append, h]
  simp [inB_mk h1 h2]
/-- A record of the callee's own was drawn. -/
def DrawnRec (w : World) (e : Ending) (w' : World) : Prop :=
  ∃ (i : Int) (px : List Int) (P : Option Addr) (k : Nat), validR i px = true ∧ e = .returned (vLogged i (.slice P px.length k)) ∧ OwnS w' 1 P px.length k 3 (ints px) ∧ (∀ x, x ∈ gOf P → w.heap.size ≤ x)
set_option maxHeartbeats 8000000 in
theorem S_drawRecord {g c : Nat} {A : Option Addr} {l : List Int} (w : World) (h : Cur 86 w g A c l) :
    Calls Tryd.prog 51 #[.pointer (some ⟨g, 0, none⟩)] w (fun e w' => DrawnRec w e w' ∧ Cur 86 w' g A c l ∧ Only w.heap.size [g] w w') := by
  have HC := Lib.hid h
  have hg := h.lt
  clear h
  go_enter Tryd.func51, Tryd.ntmps51
  go_wp2_with fail
  refine (S_below _ (HC.out.alloc _) (by omega)).mono ?_
  rintro e u1 ⟨a0, rfl, a1, a2, hc, hO⟩
  have HC1 := Lib.hid hc
  have z1 := hO.size
  (try simp at z1)
  have HOW1 : Hid (Only w.heap.size [g] w u1) := Lib.hid (Only.trans (Only.alloc (Only.refl w.heap.size [g] w) (Nat.le_refl _) _) (hO.mono (by simp) (fun x hx => Or.inl hx)) (Nat.le_refl _) (fun x hx => hx))
  have HRB1 : Hid (Own u1 w.heap.size 37 [.int .i64 0, .slice none 0 0]) := Lib.hid (hO.own (Own.new w _ #[_, _]) (by simp) (by simp; omega))
  clear hc hO
  obtain ⟨M, hM⟩ : ∃ M, u1.heap.size = M := ⟨_, rfl⟩
  have hgM : g < M := by omega
  have hwM : w.heap.size < M := by omega
  go_wp2_with fail
  refine (S_below _ (HC1.out.alloc _) (by omega)).mono ?_
  rintro e u2 ⟨b0, rfl, b1, b2, hc, hO⟩
  have HC2 := Lib.hid hc
  have z2 := hO.size
  (try simp at z2)
  have HOW2 : Hid (Only w.heap.size [g] w u2) := Lib.hid (Only.trans (Only.alloc HOW1.out (by omega) _) (hO.mono (by simp; omega) (fun x hx => Or.inl hx)) (Nat.le_refl _) (fun x hx => hx))
  have HRB : Hid (Own u2 w.heap.size 37 [.int .i64 0, .slice none 0 0]) := Lib.hid (hO.own (HRB1.out.alloc _) (by simp; omega) (by simp; omega))
  have HBX : Hid (Own u2 M 37 [.int .i64 a0, .slice none 0 0]) := Lib.hid (hO.own (by rw [← hM]; exact Own.new u1 _ #[_, _]) (by simp; omega) (by simp; omega))
  clear hc hO
  obtain ⟨N, hN⟩ : ∃ N : Nat, 1 + b0 = N := ⟨(1 + b0).toNat, by omega⟩
  have v1 : IntKind.i64.wrap (1 + b0) = N := by rw [hN]; exact IntWalk.i64_in _ (by omega)
  have hN4 : 1 ≤ N ∧ N ≤ 4 := by omega
  have hM2 : M + 1 ≤ u2.heap.size := by omega
  go_wp2_with fail
  go_loopw [4] (fun p wr => ∃ (m n : Nat) (C : Option Addr) (q : Nat) (px : List Int), m + n = N ∧ p = .int .i64 m ∧ px.length = n ∧ allIn px 0 256 = true ∧ Own wr M 37 [.int .i64 a0, .slice C n q] ∧ Grow wr (M + 1) 3 1 C n q (ints px) ∧ Cur 86 wr g A c l ∧ Only (M + 1) [g, M] u2 wr) (fun p _ => (intOf p).toNat)
  case atStart => exact ⟨N, 0, none, 0, [], rfl, rfl, rfl, rfl, HBX.out, Grow.nil _ _ _ _, HC2.out, Only.refl _ _ _⟩
  case round =>
    obtain ⟨m, n, C, q, px, hn, rfl, hpx, hal, ho, hgr, hc, hO⟩ := hrel
    have k0 := ho.cell 0
    have k1 := ho.cell 1
    have kf := ho.frozen
    have hl := ho.lt
    simp only [List.getElem?_cons_zero, List.getElem?_cons_succ] at k0 k1
    have hz := hO.size
    (try simp at hz)
    have hrb := hO.own HRB.out (by omega) (by simp; omega)
    have rb0 := hrb.cell 0
    have rb1 := hrb.cell 1
    have rbf := hrb.frozen
    have rbl := hrb.lt
    simp only [List.getElem?_cons_zero, List.getElem?_cons_succ] at rb0 rb1
    clear hrb
    have HOW := Lib.hid ho
    have HG := Lib.hid hgr
    have HCr := Lib.hid hc
    have HO := Lib.hid hO
    have HAL := Lib.hid hal
    have HPX := Lib.hid hpx
    clear ho hgr hc hO hal hpx
    by_cases hlt : 0 < m
    · have i1 : (0 : Int) < m := by omega
      have hm1 : IntKind.i64.wrap ((m : Int) - 1) = ((m - 1 : Nat) : Int) := by rw [show (m : Int) - 1 = ((m - 1 : Nat) : Int) by omega]; exact IntWalk.i64_in _ (by omega)
      clear rb0 rb1 rbf k0
      go_wp2_with fail
      refine wp_region_M (S := (fun w' => w'.cell? ⟨M, 1, none⟩ = some (.slice C n q))) 7 (by kernel_rfl) (by (try dsimp only); go_simp) (fun hHeld => ?_)
      refine wpAnyM_take (i := 0) (v := ?_) rfl (by kernel_rfl) (by kernel_rfl) (by kernel_rfl) (by kernel_rfl) (fun _ _ _ h => h) (Or.inl ⟨by rfl, ?_⟩) (by assumption) ?_
      rotate_left
      · intro w hSw
        (try dsimp only at hSw)
        go_simp
        try with_reducible rfl
      refine wpAnyM_take (i := 1) (v := ?_) rfl (by kernel_rfl) (by kernel_rfl) (by kernel_rfl) (by kernel_rfl) (fun _ _ _ h => h) (Or.inl ⟨by rfl, ?_⟩) (by assumption) ?_
      rotate_left
      · intro w hSw
        (try dsimp only at hSw)
        go_simp
        try with_reducible rfl
      refine wpAnyM_take (i := 2) (v := ?_) rfl (by kernel_rfl) (by kernel_rfl) (by kernel_rfl) (by kernel_rfl) (fun _ _ _ h => h) (Or.inl ⟨by rfl, ?_⟩) (by assumption) ?_
      rotate_left
      · intro w hSw
        (try dsimp only at hSw)
        go_simp
        try with_reducible rfl
      refine wpAnyM_one (i := 3) rfl (by kernel_rfl) (fun K4 hK4 => ?_)
      go_simp
      refine (S_below4 _ (HCr.out.drew) (by omega)).mono ?_
      rintro e x1 ⟨v, rfl, d1, d2, hcx, hOx⟩
      have hzx := hOx.size
      (try simp at hzx)
      have hgx : Own x1 M 37 [.int .i64 a0, .slice C n q] := hOx.own (HOW.out.drew) hl (by simp; omega)
      have hgr1 : Grow x1 (M + 1) 3 1 C n q (ints px) := Grow.only HG.out.drew hOx (fun x hx => ⟨HG.out.drew.lt x hx, by have := HG.out.ge x hx; simp; omega⟩)
      have kx1 := hgx.cell 1
      have kxf := hgx.frozen
      have hlx := hgx.lt
      simp only [List.getElem?_cons_zero, List.getElem?_cons_succ] at kx1
      have HX1 := Lib.hid hgx
      have HG1 := Lib.hid hgr1
      have HC1x := Lib.hid hcx
      have HOx : Hid (Only (M + 1) [g, M] u2 x1) := Lib.hid (Only.trans HO.out.drew hOx (by simp; omega) (fun x hx => by simp at hx ⊢; omega))
      clear hgx hgr1 hcx hOx
      dsimp only
      refine hK4.out _ _ (fun _ => kx1) (fun hHeld4 => ?_)
      have hX := hHeld4 (by decide)
      refine wpAnyM_one (i := 4) rfl (by kernel_rfl) (fun K5 hK5 => ?_)
      go_simp
      have nMx : ¬ M = x1.heap.size := by omega
      refine hK5.out _ _ (fun _ => by (try dsimp only); go_simp) (fun hHeld5 => ?_)
      have hX5 := hHeld5 (by decide)
      refine wpAnyM_one (i := 5) rfl (by kernel_rfl) (fun K6 hK6 => ?_)
      (refine step_app (by rfl) _ _ 32 (by rfl) (M + 1) 3 (.int .i64 0) 1 8 Tryd.underlying32 T.infoInt rfl (by decide) (xs := ints px) (by rfl) ?_ (ys := ints [v]) (by rfl) ?_ (ints_one _) ?_ ?_ ?_ ?_; (exact (by repeat (first | (with_reducible exact HG1.out) | (with_reducible refine Grow.alloc ?_ _) | (with_reducible refine Grow.drewN ?_ _) | (with_reducible refine Grow.drew ?_) | ((with_reducible refine Grow.far ?_ ?_ _); rotate_left; (first | omega | (simp <;> omega))) | (with_reducible refine Grow.step (by assumption) ?_)))); (exact (Grow.rs (base := 0) (n := 1) (c := 1) (by repeat (first | (with_reducible refine Grow.drewN ?_ _) | (with_reducible refine Grow.drew ?_) | (refine Grow.lit_at (by simp) (by rfl) (Nat.zero_le _) (by unfold maxLen; omega)))))); (unfold maxLen; omega); (omega); (first | omega | (simp <;> omega)); rintro A' c' w2 gA; have hgy : Own w2 M 37 [.int .i64 a0, .slice C n q] := Own.below (by repeat (first | (with_reducible exact HX1.out) | ((with_reducible refine Own.far ?_ ?_ _); rotate_left; (first | omega | (simp <;> omega))) | (with_reducible refine Own.alloc ?_ _) | (with_reducible refine Own.drewN ?_ _) | (with_reducible refine Own.drew ?_) | (with_reducible refine Own.step (by assumption) ?_))) gA.2.1 (Nat.lt_succ_self _); have hgc := hgy.cell 1; have hgf := hgy.frozen 1; have hgs := hgy.lt; have HO2' := Lib.hid hgy; have HG2 := Lib.hid gA.1; have HB2 := Lib.hid gA.2.1; clear gA hgy)
      refine hK6.out _ _ (fun _ => hgc) (fun hHeld6 => ?_)
      have hX6 := hHeld6 (by decide)
      refine wpAnyM_take (i := 6) (v := ?_) rfl (by kernel_rfl) (by kernel_rfl) (by kernel_rfl) (by kernel_rfl) (fun _ _ _ h => h) (Or.inl ⟨by rfl, ?_⟩) (by assumption) ?_
      rotate_left
      · intro w hSw
        (try dsimp only at hSw)
        go_simp
        try with_reducible rfl
      refine wpAnyM_one (i := 7) rfl (by kernel_rfl) (fun K7 hK7 => ?_)
      go_simp
      refine hK7.out _ _ (fun h => absurd rfl h) (fun hHeld7 => ?_)
      refine wpAnyM_done (by kernel_rfl) ?_ _
      go_wp2
      have HCy : Hid (Cur 86 w2 g A c l) := Lib.hid (Cur.stepB (HC1x.out.alloc _) HB2.out (by omega))
      go_roundw
      case rel => exact ⟨m - 1, n + 1, A', c', px ++ [v], by omega, by go_num, by simp [HPX.out], allIn_snocR HAL.out d1 (by omega), Own.set_ HO2'.out 1 _, by have hg2 := HG2.out; rw [← List.map_append] at hg2; exact hg2.far (by simp) _, Cur.far HCy.out (by simpa using hgM) _, Only.setCell (p := ⟨M, 1, none⟩) (Only.trans (Only.alloc HOx.out (by omega) _) (Only.of_below HB2.out _) (Nat.le_refl _) (fun x hx => hx)) (by simp) _⟩
      case measure => simp [intOf]; omega
    · obtain rfl : m = 0 := by omega
      obtain rfl : n = N := by omega
      have nwM : ¬ w.heap.size = M := by omega
      have nwM' : ¬ M = w.heap.size := by omega
      rw [show ((0 : Nat) : Int) = 0 from rfl]
      go_wp2_with fail
      refine bodyPost_ret (v := vLogged a0 (.slice C n q)) (by simp [results, Tryd.results51, go_sem, *]) rfl ?_
      have hvr : validR a0 px = true := by
        unfold validR
        rw [inB_mk (by omega) (by omega), inB_mk (by rw [HPX.out]; omega) (by rw [HPX.out]; omega), HAL.out]; rfl
      refine ⟨⟨a0, px, C, q, hvr, by rw [HPX.out], ?_, fun x hx => by have := HG.out.ge x hx; omega⟩, ?_, ?_⟩
      · rw [HPX.out]; exact Grow.ownS (base := M + 1) (by repeat (first | (with_reducible exact HG.out) | (with_reducible refine Grow.alloc ?_ _) | (with_reducible refine Grow.drewN ?_ _) | (with_reducible refine Grow.drew ?_) | ((with_reducible refine Grow.far ?_ ?_ _); rotate_left; (first | omega | (simp <;> omega))) | (with_reducible refine Grow.step (by assumption) ?_)))
      · exact (by repeat (first | (with_reducible exact HCr.out) | (with_reducible refine Cur.drew ?_) | (with_reducible refine Cur.drewN ?_ _) | ((with_reducible refine Cur.far ?_ ?_ _); rotate_left; (first | omega | (simp <;> omega)))))
      · have h1 : Only w.heap.size [g] w wr := Only.trans HOW2.out (HO.out.mono (by omega) (fun x hx => by simp at hx; rcases hx with rfl | rfl; left; simp; right; omega)) (Nat.le_refl _) (fun x hx => hx)
        exact (by repeat (first | (with_reducible exact h1) | (with_reducible refine Only.drew ?_) | (with_reducible refine Only.drewN ?_ _) | ((with_reducible refine Only.up ?_ ?_ _); rotate_left; (first | omega | (simp <;> omega)))))
end Go.Proofs.YtlepnjahpmlccaaDoor
