/- The reference's draw of an image: it is valid. -/
import Derived.Test.YthfnldjldfkmnaaBytes
import Derived.Test.YthfnldjldfkmnaaImageV
import Derived.Test.YthfnldjldfkmnaaPhase
import Derived.Deep.RegionHeld3
import Derived.Deep.LoopGhost
namespace Go.Proofs.Ythfnldjldfkmnaa
open Go.RowKit
set_option linter.unusedVariables false
set_option maxRecDepth 20000
theorem allIn_snoc {l : List Int} {x lo hi : Int} (h : allIn l lo hi = true) (h1 : lo ≤ x) (h2 : x ≤ hi) : allIn (l ++ [x]) lo hi = true := by
  unfold allIn at *
  rw [List.all_append, h]
  simp [inB_mk h1 h2]
/-- An image of the callee's own was drawn. -/
def DrawnImage (w : World) (e : Ending) (w' : World) : Prop :=
  ∃ (a b : Nat) (px : List Int) (P : Option Addr) (k : Nat), (1 ≤ a ∧ a ≤ 4) ∧ (1 ≤ b ∧ b ≤ 4) ∧ px.length = a * b ∧ allIn px 0 256 = true ∧ e = .returned (vImage a b (.slice P px.length k)) ∧ OwnS w' 1 P px.length k 3 (ints px) ∧ (∀ x, x ∈ gOf P → w.heap.size ≤ x)
set_option maxHeartbeats 8000000 in
theorem S_drawImage {g c : Nat} {A : Option Addr} {l : List Int} (w : World) (h : Cur 200 w g A c l) :
    Calls Try.prog 89 #[.pointer (some ⟨g, 0, none⟩)] w (fun e w' => DrawnImage w e w' ∧ Cur 200 w' g A c l ∧ Only w.heap.size [g] w w') := by
  have HC := Lib.hid h
  have hg := h.lt
  clear h
  go_enter Try.func89, Try.ntmps89
  go_wp2_with fail
  refine (S_below _ (HC.out.alloc _) (by omega)).mono ?_
  rintro e u1 ⟨a0, rfl, a1, a2, hc, hO⟩
  have HC1 := Lib.hid hc
  have HO1 := Lib.hid hO
  have z1 := hO.size
  (try simp at z1)
  clear hc hO
  go_wp2_with fail
  refine (S_below _ HC1.out (by omega)).mono ?_
  rintro e u2 ⟨b0, rfl, b1, b2, hc, hO⟩
  have HC2 := Lib.hid hc
  have HO2 := Lib.hid (Only.trans HO1.out hO (by simp; omega) (fun x hx => hx))
  have z2 := hO.size
  clear hc hO
  obtain ⟨a, ha⟩ : ∃ a : Nat, 1 + a0 = a := ⟨(1 + a0).toNat, by omega⟩
  obtain ⟨b, hb⟩ : ∃ b : Nat, 1 + b0 = b := ⟨(1 + b0).toNat, by omega⟩
  have v1 : IntKind.i64.wrap (1 + a0) = a := by rw [ha]; exact IntWalk.i64_in _ (by omega)
  have v2 : IntKind.i64.wrap (1 + b0) = b := by rw [hb]; exact IntWalk.i64_in _ (by omega)
  have hab : a * b ≤ 4 * 4 := Nat.mul_le_mul (by omega) (by omega)
  have hab1 : 1 ≤ a * b := Nat.mul_pos (by omega) (by omega)
  have hm : (a : Int) * (b : Int) = ((a * b : Nat) : Int) := by simp
  obtain ⟨N, hN⟩ : ∃ N, a * b = N := ⟨_, rfl⟩
  rw [hN] at hm hab hab1
  have v3 : IntKind.i64.wrap ((a : Int) * (b : Int)) = N := by rw [hm]; exact IntWalk.i64_in _ (by omega)
  go_wp2_with fail
  have hne : w.heap.size ≠ g := by omega
  have HRB : Hid (Own u2 w.heap.size 38 [.int .i64 0, .int .i64 0, .slice none 0 0]) := Lib.hid (HO2.out.own (Own.new w _ #[_, _, _]) (by simp) (by simp; omega))
  have HOW2 : Hid (Only w.heap.size [g] w u2) := Lib.hid (Only.trans (Only.alloc (Only.refl w.heap.size [g] w) (Nat.le_refl _) _) (HO2.out.mono (by simp) (fun x hx => Or.inl hx)) (Nat.le_refl _) (fun x hx => hx))
  obtain ⟨M, hM⟩ : ∃ M, u2.heap.size = M := ⟨_, rfl⟩
  have hgM : g < M := by omega
  have hwM : w.heap.size < M := by omega
  rw [hM]
  go_loopg [11] N (fun gg _ wr => ∃ (n : Nat) (C : Option Addr) (q : Nat) (px : List Int), n ≤ N ∧ N - n ≤ gg ∧ px.length = n ∧ allIn px 0 256 = true ∧ Own wr M 38 [.int .i64 a, .int .i64 b, .slice C n q] ∧ Grow wr (M + 1) 3 1 C n q (ints px) ∧ Cur 200 wr g A c l ∧ Only (M + 1) [g, M] (u2.alloc (.cells #[.int .i64 a, .int .i64 b, .slice none 0 0] 38)) wr)
  case atStart => exact ⟨0, none, 0, [], Nat.zero_le _, by omega, rfl, rfl, by rw [← hM]; exact Own.new u2 _ #[_, _, _], Grow.nil _ _ _ _, HC2.out.alloc _, Only.refl _ _ _⟩
  case round =>
    obtain ⟨n, C, q, px, hn, hgg, hpx, hal, ho, hgr, hc, hO⟩ := hrel
    have k0 := ho.cell 0
    have k1 := ho.cell 1
    have k2 := ho.cell 2
    have kf := ho.frozen
    have hl := ho.lt
    simp only [List.getElem?_cons_zero, List.getElem?_cons_succ] at k0 k1 k2
    have hz := hO.size
    (try simp at hz)
    have hrb := hO.own (HRB.out.alloc (.cells #[.int .i64 a, .int .i64 b, .slice none 0 0] 38)) (by omega) (by simp; omega)
    have rb0 := hrb.cell 0
    have rb1 := hrb.cell 1
    have rb2 := hrb.cell 2
    have rbf := hrb.frozen
    simp only [List.getElem?_cons_zero, List.getElem?_cons_succ] at rb0 rb1 rb2
    clear hrb
    have HOW := Lib.hid ho
    have HG := Lib.hid hgr
    have HCr := Lib.hid hc
    have HO := Lib.hid hO
    have HAL := Lib.hid hal
    have HPX := Lib.hid hpx
    clear ho hgr hc hO hal hpx
    by_cases hlt : n < N
    · have i1 : (n : Int) < N := by omega
      clear rb0 rb1 rb2 rbf
      go_wp2_with fail
      refine wp_region_M (S := (fun w' => w'.cell? ⟨M, 2, none⟩ = some (.slice C n q))) 7 (by kernel_rfl) (by (try dsimp only); go_simp) (fun hHeld => ?_)
      refine wpAnyM_take (i := 0) (v := ?_) rfl (by kernel_rfl) (by kernel_rfl) (by kernel_rfl) (by kernel_rfl) (fun _ _ _ h => h) (Or.inl ⟨by rfl, ?_⟩) (by assumption) ?_
      rotate_left
      · intro w hSw
        (try dsimp only at hSw)
        go_simp
        try with_reducible rfl
      refine wpAnyM_take (i := 1) (v := ?_) rfl (by kernel_rfl) (by kernel_rfl) (by kernel_rfl) (by kernel_rfl) (fun _ _ _ h => h) (Or.inl ⟨by rfl, ?_⟩) (by assumption) ?_
      rotate_left
      · intro w hSw
        (try dsimp only at hSw)
        go_simp
        try with_reducible rfl
      refine wpAnyM_take (i := 2) (v := ?_) rfl (by kernel_rfl) (by kernel_rfl) (by kernel_rfl) (by kernel_rfl) (fun _ _ _ h => h) (Or.inl ⟨by rfl, ?_⟩) (by assumption) ?_
      rotate_left
      · intro w hSw
        (try dsimp only at hSw)
        go_simp
        try with_reducible rfl
      refine wpAnyM_one (i := 3) rfl (by kernel_rfl) (fun K4 hK4 => ?_)
      go_simp
      refine (S_below4 _ (HCr.out.drew) (by omega)).mono ?_
      rintro e x1 ⟨v, rfl, d1, d2, hcx, hOx⟩
      have hzx := hOx.size
      (try simp at hzx)
      have hgx : Own x1 M 38 [.int .i64 a, .int .i64 b, .slice C n q] := hOx.own (HOW.out.drew) hl (by simp; omega)
      have hgr1 : Grow x1 (M + 1) 3 1 C n q (ints px) := Grow.only HG.out.drew hOx (fun x hx => ⟨HG.out.drew.lt x hx, by have := HG.out.ge x hx; simp; omega⟩)
      have kx2 := hgx.cell 2
      have kxf := hgx.frozen
      have hlx := hgx.lt
      simp only [List.getElem?_cons_zero, List.getElem?_cons_succ] at kx2
      have HX1 := Lib.hid hgx
      have HG1 := Lib.hid hgr1
      have HC1x := Lib.hid hcx
      have HOx : Hid (Only (M + 1) [g, M] (u2.alloc (.cells #[.int .i64 a, .int .i64 b, .slice none 0 0] 38)) x1) := Lib.hid (Only.trans HO.out.drew hOx (by simp; omega) (fun x hx => by simp at hx ⊢; omega))
      clear hgx hgr1 hcx hOx
      dsimp only
      refine hK4.out _ _ (fun _ => kx2) (fun hHeld4 => ?_)
      have hX := hHeld4 (by decide)
      refine wpAnyM_one (i := 4) rfl (by kernel_rfl) (fun K5 hK5 => ?_)
      go_simp
      have nMx : ¬ M = x1.heap.size := by omega
      refine hK5.out _ _ (fun _ => by (try dsimp only); go_simp) (fun hHeld5 => ?_)
      have hX5 := hHeld5 (by decide)
      refine wpAnyM_one (i := 5) rfl (by kernel_rfl) (fun K6 hK6 => ?_)
      (refine step_app (by rfl) _ _ 36 (by rfl) (M + 1) 3 (.int .i64 0) 1 8 Try.underlying36 T.infoInt rfl (by decide) (xs := ints px) (by rfl) ?_ (ys := ints [v]) (by rfl) ?_ (ints_one _) ?_ ?_ ?_ ?_; (exact (by repeat (first | (with_reducible exact HG1.out) | (with_reducible refine Grow.alloc ?_ _) | (with_reducible refine Grow.drewN ?_ _) | (with_reducible refine Grow.drew ?_) | ((with_reducible refine Grow.far ?_ ?_ _); rotate_left; (first | omega | (simp <;> omega))) | (with_reducible refine Grow.step (by assumption) ?_)))); (exact (Grow.rs (base := 0) (n := 1) (c := 1) (by repeat (first | (with_reducible refine Grow.drewN ?_ _) | (with_reducible refine Grow.drew ?_) | (refine Grow.lit_at (by simp) (by rfl) (Nat.zero_le _) (by unfold maxLen; omega)))))); (unfold maxLen; omega); (omega); (first | omega | (simp <;> omega)); rintro A' c' w2 gA; have hgy : Own w2 M 38 [.int .i64 a, .int .i64 b, .slice C n q] := Own.below (by repeat (first | (with_reducible exact HX1.out) | ((with_reducible refine Own.far ?_ ?_ _); rotate_left; (first | omega | (simp <;> omega))) | (with_reducible refine Own.alloc ?_ _) | (with_reducible refine Own.drewN ?_ _) | (with_reducible refine Own.drew ?_) | (with_reducible refine Own.step (by assumption) ?_))) gA.2.1 (Nat.lt_succ_self _); have hgc := hgy.cell 2; have hgf := hgy.frozen 2; have hgs := hgy.lt; have HO2' := Lib.hid hgy; have HG2 := Lib.hid gA.1; have HB2 := Lib.hid gA.2.1; clear gA hgy)
      refine hK6.out _ _ (fun _ => hgc) (fun hHeld6 => ?_)
      have hX6 := hHeld6 (by decide)
      refine wpAnyM_take (i := 6) (v := ?_) rfl (by kernel_rfl) (by kernel_rfl) (by kernel_rfl) (by kernel_rfl) (fun _ _ _ h => h) (Or.inl ⟨by rfl, ?_⟩) (by assumption) ?_
      rotate_left
      · intro w hSw
        (try dsimp only at hSw)
        go_simp
        try with_reducible rfl
      refine wpAnyM_one (i := 7) rfl (by kernel_rfl) (fun K7 hK7 => ?_)
      go_simp
      refine hK7.out _ _ (fun h => absurd rfl h) (fun hHeld7 => ?_)
      refine wpAnyM_done (by kernel_rfl) ?_ _
      go_wp2
      have HCy : Hid (Cur 200 w2 g A c l) := Lib.hid (Cur.stepB (HC1x.out.alloc _) HB2.out (by omega))
      go_roundg (N - (n + 1))
      case rel => exact ⟨n + 1, A', c', px ++ [v], by omega, by omega, by simp [HPX.out], allIn_snoc HAL.out d1 (by omega), Own.set_ HO2'.out 2 _, by have hg2 := HG2.out; rw [← List.map_append] at hg2; exact hg2.far (by simp) _, Cur.far HCy.out (by simpa using hgM) _, Only.setCell (p := ⟨M, 2, none⟩) (Only.trans (Only.alloc HOx.out (by omega) _) (Only.of_below HB2.out _) (Nat.le_refl _) (fun x hx => hx)) (by simp) _⟩
      case measure => omega
    · obtain rfl : n = N := by omega
      have i1 : ¬ (n : Int) < n := by omega
      go_wp2
      refine bodyPost_ret (v := vImage a b (.slice C n q)) (by simp [results, Try.results89, go_sem, *]) rfl ?_
      refine ⟨⟨a, b, px, C, q, by omega, by omega, by rw [HPX.out, hN], HAL.out, by rw [HPX.out], ?_, fun x hx => by have := HG.out.ge x hx; omega⟩, ?_, ?_⟩
      · rw [HPX.out]; exact Grow.ownS (base := M + 1) (by repeat (first | (with_reducible exact HG.out) | (with_reducible refine Grow.alloc ?_ _) | (with_reducible refine Grow.drewN ?_ _) | (with_reducible refine Grow.drew ?_) | ((with_reducible refine Grow.far ?_ ?_ _); rotate_left; (first | omega | (simp <;> omega))) | (with_reducible refine Grow.step (by assumption) ?_)))
      · exact (by repeat (first | (with_reducible exact HCr.out) | (with_reducible refine Cur.drew ?_) | (with_reducible refine Cur.drewN ?_ _) | ((with_reducible refine Cur.far ?_ ?_ _); rotate_left; (first | omega | (simp <;> omega)))))
      · have h1 : Only w.heap.size [g] w wr := Only.trans (Only.alloc HOW2.out (by omega) _) (HO.out.mono (by omega) (fun x hx => by simp at hx; rcases hx with rfl | rfl; left; simp; right; omega)) (Nat.le_refl _) (fun x hx => hx)
        exact (by repeat (first | (with_reducible exact h1) | (with_reducible refine Only.drew ?_) | (with_reducible refine Only.drewN ?_ _) | ((with_reducible refine Only.up ?_ ?_ _); rotate_left; (first | omega | (simp <;> omega)))))
set_option maxHeartbeats 8000000 in
theorem S_makeImage {c : Nat} {A : Option Addr} {l : List Int} (w : World) (hl : l.length ≤ 1048576) (h : RS w 1 A l.length c (u8s l)) :
    Calls Try.prog 20 #[.slice A l.length c, .int .i64 0] w (fun e w' => DrawnImage w e w' ∧ Below w.heap.size w w') := by
  have HR := Lib.hid h
  clear h
  have HN : Hid (∀ wx, RS wx 1 A l.length c (u8s l) → Calls Try.prog 90 #[.slice A l.length c, .int .i64 0] wx (NewCur wx A c l)) := fun wx hx => S_newCurN (n := 0) wx hl (by omega) hx
  go_enter Try.func20, Try.ntmps20
  go_wp2_with fail
  refine (HN.out _ (HR.out.alloc _)).mono ?_
  rintro e w1 ⟨g, rfl, hg, hc, hb⟩
  (try simp at hg)
  have hz1 := hb.size
  (try simp at hz1)
  have HC := Lib.hid hc
  have hrb : Own w1 w.heap.size 38 [.int .i64 0, .int .i64 0, .slice none 0 0] := Own.step hb (Own.new w _ #[_, _, _])
  have HB := Lib.hid (Below.trans (Below.alloc (Below.refl w.heap.size w) (Nat.le_refl _) _) (hb.mono (by simp)))
  have HRB := Lib.hid hrb
  clear hc hb hrb
  go_wp2_with fail
  refine (S_drawImage _ HC.out).mono ?_
  rintro e w2 ⟨⟨a, b, px, P, k, ha, hbb, hpx, hal, rfl, ho, hge⟩, hc, hO⟩
  have hz2 := hO.size
  have hrb := hO.own HRB.out (by omega) (by simp; omega)
  have rb0 := hrb.cell 0
  have rb1 := hrb.cell 1
  have rb2 := hrb.cell 2
  have rbf := hrb.frozen
  simp only [List.getElem?_cons_zero, List.getElem?_cons_succ] at rb0 rb1 rb2
  have HO2 := Lib.hid (Below.trans HB.out (hO.below (by omega) (fun x hx => by simp at hx; omega)))
  have HOP := Lib.hid ho
  have HPX := Lib.hid hpx
  clear hc hO hrb ho hpx
  go_wp2
  refine bodyPost_ret (v := vImage a b (.slice P px.length k)) (by simp [results, Try.results20, go_sem, *]) rfl ?_
  refine ⟨⟨a, b, px, P, k, ha, hbb, HPX.out, hal, rfl, ?_, fun x hx => by have := hge x hx; omega⟩, (by repeat (first | (with_reducible exact Below.refl _ _) | (with_reducible exact HO2.out) | (with_reducible assumption) | ((with_reducible refine Below.alloc ?_ ?_ _); rotate_left; (first | omega | (simp <;> omega))) | ((with_reducible refine Below.setCell ?_ ?_ _); rotate_left; (first | omega | (simp <;> omega))) | (with_reducible refine below_drewN ?_ _) | (with_reducible refine Below.drew ?_) | ((with_reducible refine Below.step (by assumption) ?_ ?_); rotate_left; (first | omega | (simp <;> omega)))))⟩
  exact (by repeat (first | (with_reducible exact HOP.out) | (with_reducible refine OwnS.drew ?_) | (with_reducible refine OwnS.drewN ?_ _) | ((with_reducible refine OwnS.far ?_ ?_ _); rotate_left; (intro x hx; have := hge x hx; simp; omega))))
end Go.Proofs.Ythfnldjldfkmnaa
