/- MADE BY PROGRAM (genrowl.py). Programs: the laws' own helpers on rows. -/
import Derived.Test.YtjipfgadamokaaaGreatDoorRowsN
set_option linter.unusedVariables false
set_option linter.unusedSimpArgs false
namespace Go.Proofs.YtjipfgadamokaaaGreatDoor
open Go.RowKit Go.Lib
set_option maxRecDepth 100000
theorem Up.refl (lo : Nat) (w : World) : Up lo w w := ⟨Nat.le_refl _, fun _ _ _ => rfl⟩
theorem Up.setCell {lo : Nat} {a w : World} (h : Up lo a w) {p : Addr} (hp : p.block < lo) (u : Value) : Up lo a (w.setCell p u) :=
  ⟨by simpa [World.setCell] using h.size, fun b h1 h2 => (Below.heap_setCell _ _ _ _ (by omega)).trans (h.block b h1 h2)⟩
theorem Up.drewN {lo : Nat} {a w : World} (h : Up lo a w) (n : Nat) : Up lo a (w.drewN n) := ⟨h.size, h.block⟩
theorem Up.trans {lo : Nat} {a b c : World} (h : Up lo a b) (k : Up lo b c) : Up lo a c := ⟨Nat.le_trans h.size k.size, fun i h1 h2 => (k.block i h1 (Nat.lt_of_lt_of_le h2 h.size)).trans (h.block i h1 h2)⟩
theorem Up.step {lo : Nat} {a b c : World} (hb : Below b.heap.size b c) (h : Up lo a b) : Up lo a c := h.trans (Up.of_below hb)
def progP (lo : Nat) (w : World) (ys : List Value) (x : EProg) : Prop := ∃ u v, ys = [u, v] ∧ RowL nodeE lo w u x.1 ∧ RowL assE lo w v x.2
def progE : Elem EProg where
  sz := 2
  P := progP
  len := by rintro lo w ys x ⟨u, v, rfl, _⟩; rfl
  one := by
    rintro lo w ys x ⟨u, v, rfl, h1, h2⟩
    obtain ⟨A, c, rfl, _⟩ := h1.slice
    obtain ⟨A2, c2, rfl, _⟩ := h2.slice
    rfl
  keep := by rintro lo w w' ys x ⟨u, v, rfl, h1, h2⟩ hu; exact ⟨u, v, rfl, h1.keep hu, h2.keep hu⟩
  mono := by rintro lo lo' w ys x ⟨u, v, rfl, h1, h2⟩ hl; exact ⟨u, v, rfl, h1.mono hl, h2.mono hl⟩
def progB (x : EProg) : Prop := (x.1.length ≤ 1048576 ∧ ∀ y ∈ x.1, nodeB y) ∧ (x.2.length ≤ 1048576 ∧ ∀ y ∈ x.2, assB y)
theorem T.infoProg : (Tryz.prog.info? 70).map (fun i => (i.zero, i.size, i.bytes)) = some (some (.agg #[.slice none 0 0, .slice none 0 0]), 2, 48) := by kernel_rfl
set_option maxHeartbeats 4000000 in
theorem L_szProgram {lo : Nat} {ys : List Value} {x : EProg} {left : Int} (w : World) (h : progE.P lo w ys x) (h1 : 0 ≤ left) (h2 : left ≤ 1048576) :
    Calls Tryz.prog 34 #[.agg ⟨ys⟩, .int .i64 left] w fun e w' => ∃ r : Int, e = .returned (.int .i64 r) ∧ -1 ≤ r ∧ r ≤ left ∧ (0 ≤ r → progB x) ∧ Below w.heap.size w w' := by
  obtain ⟨u, v, rfl, hu, hv⟩ := h
  obtain ⟨A, c, rfl, _⟩ := hu.slice
  obtain ⟨A2, c2, rfl, _⟩ := hv.slice
  have HC1 : Hid (∀ wx, Below w.heap.size w wx → Calls Tryz.prog 67 #[.slice A x.1.length c, .int .i64 left] wx fun e w' => ∃ r : Int, e = .returned (.int .i64 r) ∧ -1 ≤ r ∧ r ≤ left ∧ (0 ≤ r → x.1.length ≤ 1048576 ∧ ∀ y ∈ x.1, nodeB y) ∧ Below wx.heap.size wx w') := Lib.hid (fun wx hb => L_szNodeS wx (hu.step hb) h1 h2)
  have HC2 : Hid (∀ r : Int, 0 ≤ r → r ≤ left → ∀ wx, Below w.heap.size w wx → Calls Tryz.prog 68 #[.slice A2 x.2.length c2, .int .i64 r] wx fun e w' => ∃ r2 : Int, e = .returned (.int .i64 r2) ∧ -1 ≤ r2 ∧ r2 ≤ r ∧ (0 ≤ r2 → x.2.length ≤ 1048576 ∧ ∀ y ∈ x.2, assB y) ∧ Below wx.heap.size wx w') := Lib.hid (fun r g1 g2 wx hb => L_szAssignmentS wx (hv.step hb) g1 (by omega))
  clear hu hv
  go_enter Tryz.func34, Tryz.ntmps34
  go_wp2_with fail
  refine (HC1.out _ (by repeat (first | (with_reducible exact Below.refl _ _) | (with_reducible assumption) | ((with_reducible refine Below.alloc ?_ ?_ _); rotate_left; (first | omega | (simp <;> omega))) | ((with_reducible refine Below.setCell ?_ ?_ _); rotate_left; (first | omega | (simp <;> omega))) | (with_reducible refine below_drewN ?_ _) | (with_reducible refine Below.drew ?_) | ((with_reducible refine Below.step (by assumption) ?_ ?_); rotate_left; (first | omega | (simp <;> omega)))))).mono ?_
  rintro e wA ⟨r, rfl, g1, g2, g3, hbA⟩
  have hzA := hbA.size
  (try simp at hzA)
  refine with_box hbA (w.heap.size) ?_ ?_
  · first | omega | (simp <;> omega)
  intro n0 nf0 nz0
  have HBA : Hid (Below w.heap.size w wA) := Lib.hid (Below.step hbA (by repeat (first | (with_reducible exact Below.refl _ _) | (with_reducible assumption) | ((with_reducible refine Below.alloc ?_ ?_ _); rotate_left; (first | omega | (simp <;> omega))) | ((with_reducible refine Below.setCell ?_ ?_ _); rotate_left; (first | omega | (simp <;> omega))) | (with_reducible refine below_drewN ?_ _) | (with_reducible refine Below.drew ?_) | ((with_reducible refine Below.step (by assumption) ?_ ?_); rotate_left; (first | omega | (simp <;> omega))))) (by first | omega | (simp <;> omega)))
  have HG3 := Lib.hid g3
  clear hbA g3
  rcases (show r < 0 ∨ 0 ≤ r by omega) with g4 | g4
  · go_wp2_with fail
    go_ret
    exact ⟨-1, rfl, by omega, by omega, fun h => absurd h (by omega), HBA.out⟩
  · have g5 : ¬ r < 0 := by omega
    go_wp2_with fail
    refine (HC2.out r g4 g2 _ HBA.out).mono ?_
    rintro e wB ⟨r2, rfl, k1, k2, k3, hbB⟩
    have HBB : Hid (Below w.heap.size w wB) := Lib.hid (Below.step hbB HBA.out HBA.out.size)
    have HK3 := Lib.hid k3
    clear hbB k3
    rcases (show r2 < 0 ∨ 0 ≤ r2 by omega) with k4 | k4
    · go_wp2_with fail
      go_ret
      exact ⟨-1, rfl, by omega, by omega, fun h => absurd h (by omega), HBB.out⟩
    · have k5 : ¬ r2 < 0 := by omega
      go_wp2_with fail
      go_ret
      exact ⟨r2, rfl, by omega, by omega, fun _ => ⟨HG3.out g4, HK3.out k4⟩, HBB.out⟩
set_option maxHeartbeats 4000000 in
theorem L_toProgram {lo : Nat} {ys : List Value} {x : EProg} (w : World) (h : progE.P lo w ys x) (hB : progB x) :
    Calls Tryz.prog 48 #[.agg ⟨ys⟩] w fun e w' => ∃ zs, e = .returned (.agg ⟨zs⟩) ∧ progE.P w.heap.size w' zs x ∧ Below w.heap.size w w' := by
  obtain ⟨u, v, rfl, hu, hv⟩ := h
  obtain ⟨A, c, rfl, _⟩ := hu.slice
  obtain ⟨A2, c2, rfl, _⟩ := hv.slice
  have HC1 : Hid (∀ wx, Below w.heap.size w wx → Calls Tryz.prog 80 #[.slice A x.1.length c] wx fun e w' => ∃ v, e = .returned v ∧ RowL nodeE wx.heap.size w' v x.1 ∧ Below wx.heap.size wx w') := Lib.hid (fun wx hb => L_toNodeS wx (hu.step hb) hB.1.1 hB.1.2)
  have HC2 : Hid (∀ wx, Below w.heap.size w wx → Calls Tryz.prog 81 #[.slice A2 x.2.length c2] wx fun e w' => ∃ v, e = .returned v ∧ RowL assE wx.heap.size w' v x.2 ∧ Below wx.heap.size wx w') := Lib.hid (fun wx hb => L_toAssignmentS wx (hv.step hb) hB.2.1 hB.2.2)
  clear hu hv hB
  go_enter Tryz.func48, Tryz.ntmps48
  go_wp2_with fail
  refine (HC1.out _ (by repeat (first | (with_reducible exact Below.refl _ _) | (with_reducible assumption) | ((with_reducible refine Below.alloc ?_ ?_ _); rotate_left; (first | omega | (simp <;> omega))) | ((with_reducible refine Below.setCell ?_ ?_ _); rotate_left; (first | omega | (simp <;> omega))) | (with_reducible refine below_drewN ?_ _) | (with_reducible refine Below.drew ?_) | ((with_reducible refine Below.step (by assumption) ?_ ?_); rotate_left; (first | omega | (simp <;> omega)))))).mono ?_
  rintro e wA ⟨v1, rfl, hrA, hbA⟩
  obtain ⟨B1, d1, rfl, _⟩ := hrA.slice
  have hzA := hbA.size
  (try simp at hzA)
  refine with_box hbA (w.heap.size) ?_ ?_
  · first | omega | (simp <;> omega)
  intro n0 nf0 nz0
  refine with_box hbA (w.heap.size + 1) ?_ ?_
  · first | omega | (simp <;> omega)
  intro m0 mf0 mz0
  refine with_box hbA (w.heap.size + 1 + 1) ?_ ?_
  · first | omega | (simp <;> omega)
  intro q0 qf0 qz0
  have HRA : Hid (RowL nodeE (w.heap.size + 1 + 1 + 1) wA (.slice B1 x.1.length d1) x.1) := Lib.hid (by have := hrA; simp only [World.size_alloc] at this; exact this)
  have HBA : Hid (Below w.heap.size w wA) := Lib.hid (Below.step hbA (by repeat (first | (with_reducible exact Below.refl _ _) | (with_reducible assumption) | ((with_reducible refine Below.alloc ?_ ?_ _); rotate_left; (first | omega | (simp <;> omega))) | ((with_reducible refine Below.setCell ?_ ?_ _); rotate_left; (first | omega | (simp <;> omega))) | (with_reducible refine below_drewN ?_ _) | (with_reducible refine Below.drew ?_) | ((with_reducible refine Below.step (by assumption) ?_ ?_); rotate_left; (first | omega | (simp <;> omega))))) (by first | omega | (simp <;> omega)))
  clear hbA hrA
  go_wp2_with fail
  refine (HC2.out _ (by repeat (first | (with_reducible exact Below.refl _ _) | (with_reducible exact HBA.out) | (with_reducible assumption) | ((with_reducible refine Below.alloc ?_ ?_ _); rotate_left; (first | omega | (simp <;> omega))) | ((with_reducible refine Below.setCell ?_ ?_ _); rotate_left; (first | omega | (simp <;> omega))) | (with_reducible refine below_drewN ?_ _) | (with_reducible refine Below.drew ?_) | ((with_reducible refine Below.step (by assumption) ?_ ?_); rotate_left; (first | omega | (simp <;> omega)))))).mono ?_
  rintro e wB ⟨v2, rfl, hrB, hbB⟩
  obtain ⟨B2, d2, rfl, _⟩ := hrB.slice
  have hzB := hbB.size
  (try simp at hzB)
  refine with_box hbB (w.heap.size + 1) ?_ ?_
  · first | omega | (simp <;> omega)
  intro p0 pf0 pz0
  refine with_box hbB (w.heap.size + 1 + 1) ?_ ?_
  · first | omega | (simp <;> omega)
  intro r0 rf0 rz0
  have HRA2 : Hid (RowL nodeE (w.heap.size + 1 + 1 + 1) wB (.slice B1 x.1.length d1) x.1) := Lib.hid (HRA.out.keep (Up.step hbB (Up.setCell (Up.refl _ _) (by show w.heap.size + 1 + 1 < _; omega) _)))
  have HRB : Hid (RowL assE (w.heap.size + 1 + 1 + 1) wB (.slice B2 x.2.length d2) x.2) := Lib.hid (hrB.mono (by first | omega | (simp <;> omega)))
  have HBB : Hid (Below w.heap.size w wB) := Lib.hid (Below.step hbB (by repeat (first | (with_reducible exact Below.refl _ _) | (with_reducible exact HBA.out) | (with_reducible assumption) | ((with_reducible refine Below.alloc ?_ ?_ _); rotate_left; (first | omega | (simp <;> omega))) | ((with_reducible refine Below.setCell ?_ ?_ _); rotate_left; (first | omega | (simp <;> omega))) | (with_reducible refine below_drewN ?_ _) | (with_reducible refine Below.drew ?_) | ((with_reducible refine Below.step (by assumption) ?_ ?_); rotate_left; (first | omega | (simp <;> omega))))) (by first | omega | (simp <;> omega)))
  clear hbB hrB
  go_wp2_with fail
  refine bodyPost_ret (v := .agg #[.slice B1 x.1.length d1, .slice B2 x.2.length d2]) (by simp [results, Tryz.results48, go_sem, *]) rfl ?_
  have hup : ∀ wz, Up (w.heap.size + 1 + 1 + 1) wB wz → progE.P w.heap.size wz [.slice B1 x.1.length d1, .slice B2 x.2.length d2] x := fun wz hz => ⟨_, _, rfl, (HRA2.out.keep hz).mono (by omega), (HRB.out.keep hz).mono (by omega)⟩
  refine ⟨_, rfl, hup _ ?_, (by repeat (first | (with_reducible exact Below.refl _ _) | (with_reducible exact HBB.out) | (with_reducible assumption) | ((with_reducible refine Below.alloc ?_ ?_ _); rotate_left; (first | omega | (simp <;> omega))) | ((with_reducible refine Below.setCell ?_ ?_ _); rotate_left; (first | omega | (simp <;> omega))) | (with_reducible refine below_drewN ?_ _) | (with_reducible refine Below.drew ?_) | ((with_reducible refine Below.step (by assumption) ?_ ?_); rotate_left; (first | omega | (simp <;> omega)))))⟩
  repeat (first | (with_reducible exact Up.refl _ _) | (refine Up.setCell ?_ (by first | omega | (simp <;> omega)) _))
set_option maxHeartbeats 4000000 in
theorem L_eqProgram {lo lo' : Nat} {ys ys' : List Value} {x : EProg} (w : World) (h : progE.P lo w ys x) (h' : progE.P lo' w ys' x) :
    Calls Tryz.prog 64 #[.agg ⟨ys⟩, .agg ⟨ys'⟩] w fun e w' => e = .returned (.bool true) ∧ Below w.heap.size w w' := by
  obtain ⟨u, v, rfl, hu, hv⟩ := h
  obtain ⟨A, c, rfl, _⟩ := hu.slice
  obtain ⟨A2, c2, rfl, _⟩ := hv.slice
  obtain ⟨u', v', rfl, hu', hv'⟩ := h'
  obtain ⟨A', c', rfl, _⟩ := hu'.slice
  obtain ⟨A2', c2', rfl, _⟩ := hv'.slice
  have HC1 : Hid (∀ wx, Below w.heap.size w wx → Calls Tryz.prog 96 #[.slice A x.1.length c, .slice A' x.1.length c'] wx fun e w' => e = .returned (.bool true) ∧ Below wx.heap.size wx w') := Lib.hid (fun wx hb => L_eqNodeS wx (hu.step hb) (hu'.step hb))
  have HC2 : Hid (∀ wx, Below w.heap.size w wx → Calls Tryz.prog 97 #[.slice A2 x.2.length c2, .slice A2' x.2.length c2'] wx fun e w' => e = .returned (.bool true) ∧ Below wx.heap.size wx w') := Lib.hid (fun wx hb => L_eqAssignmentS wx (hv.step hb) (hv'.step hb))
  clear hu hv hu' hv'
  go_enter Tryz.func64, Tryz.ntmps64
  go_wp2_with fail
  refine (HC1.out _ (by repeat (first | (with_reducible exact Below.refl _ _) | (with_reducible assumption) | ((with_reducible refine Below.alloc ?_ ?_ _); rotate_left; (first | omega | (simp <;> omega))) | ((with_reducible refine Below.setCell ?_ ?_ _); rotate_left; (first | omega | (simp <;> omega))) | (with_reducible refine below_drewN ?_ _) | (with_reducible refine Below.drew ?_) | ((with_reducible refine Below.step (by assumption) ?_ ?_); rotate_left; (first | omega | (simp <;> omega)))))).mono ?_
  rintro e wA ⟨rfl, hbA⟩
  have hzA := hbA.size
  (try simp at hzA)
  refine with_box hbA (w.heap.size) ?_ ?_
  · first | omega | (simp <;> omega)
  intro n0 nf0 nz0
  refine with_box hbA (w.heap.size + 1) ?_ ?_
  · first | omega | (simp <;> omega)
  intro m0 mf0 mz0
  have HBA : Hid (Below w.heap.size w wA) := Lib.hid (Below.step hbA (by repeat (first | (with_reducible exact Below.refl _ _) | (with_reducible assumption) | ((with_reducible refine Below.alloc ?_ ?_ _); rotate_left; (first | omega | (simp <;> omega))) | ((with_reducible refine Below.setCell ?_ ?_ _); rotate_left; (first | omega | (simp <;> omega))) | (with_reducible refine below_drewN ?_ _) | (with_reducible refine Below.drew ?_) | ((with_reducible refine Below.step (by assumption) ?_ ?_); rotate_left; (first | omega | (simp <;> omega))))) (by first | omega | (simp <;> omega)))
  clear hbA
  go_wp2_with fail
  refine (HC2.out _ HBA.out).mono ?_
  rintro e wB ⟨rfl, hbB⟩
  have HBB : Hid (Below w.heap.size w wB) := Lib.hid (Below.step hbB HBA.out HBA.out.size)
  clear hbB
  go_wp2_with fail
  go_ret
  exact ⟨rfl, HBB.out⟩
set_option maxHeartbeats 8000000 in
theorem L_szProgramS {lo : Nat} {A : Option Addr} {c : Nat} {l : List EProg} {left : Int} (w : World) (h : RowL progE lo w (.slice A l.length c) l) (h1 : 0 ≤ left) (h2 : left ≤ 1048576) :
    Calls Tryz.prog 13 #[.slice A l.length c, .int .i64 left] w fun e w' => ∃ r : Int, e = .returned (.int .i64 r) ∧ -1 ≤ r ∧ r ≤ left ∧ (0 ≤ r → l.length ≤ 1048576 ∧ ∀ x ∈ l, progB x) ∧ Below w.heap.size w w' := by
  obtain ⟨A0, c0, e0, hlc, hcm⟩ := h.slice
  injection e0 with e1 e2 e3
  subst e1; subst e3
  unfold maxLen at hcm
  have H0 := Lib.hid h
  clear h e2
  by_cases hlt0 : left < l.length
  · have q1 : left - (l.length : Int) < 0 := by omega
    go_enter Tryz.func13, Tryz.ntmps13
    go_wp2_with fail
    go_ret
    exact ⟨-1, rfl, by omega, by omega, fun h => absurd h (by omega), (by repeat (first | (with_reducible exact Below.refl _ _) | (with_reducible assumption) | ((with_reducible refine Below.alloc ?_ ?_ _); rotate_left; (first | omega | (simp <;> omega))) | ((with_reducible refine Below.setCell ?_ ?_ _); rotate_left; (first | omega | (simp <;> omega))) | (with_reducible refine below_drewN ?_ _) | (with_reducible refine Below.drew ?_) | ((with_reducible refine Below.step (by assumption) ?_ ?_); rotate_left; (first | omega | (simp <;> omega)))))⟩
  have q1 : ¬ left - (l.length : Int) < 0 := by omega
  go_enter Tryz.func13, Tryz.ntmps13
  go_wp2_with fail
  go_loopw [1, 5] (fun v i wr => ∃ (k : Nat) (r : Int), k ≤ l.length ∧ i = .int .i64 k ∧ v = .int .i64 r ∧ 0 ≤ r ∧ r ≤ left - l.length ∧ (∀ (j : Nat) (hj : j < l.length), j < k → progB l[j]) ∧ Below w.heap.size w wr) (fun _ i _ => l.length - (RowKit.intOf i).toNat)
  case atStart => exact ⟨0, _, Nat.zero_le _, rfl, rfl, by omega, by omega, fun j hj h => absurd h (by omega), (by repeat (first | (with_reducible exact Below.refl _ _) | (with_reducible assumption) | ((with_reducible refine Below.alloc ?_ ?_ _); rotate_left; (first | omega | (simp <;> omega))) | ((with_reducible refine Below.setCell ?_ ?_ _); rotate_left; (first | omega | (simp <;> omega))) | (with_reducible refine below_drewN ?_ _) | (with_reducible refine Below.drew ?_) | ((with_reducible refine Below.step (by assumption) ?_ ?_); rotate_left; (first | omega | (simp <;> omega)))))⟩
  case round =>
    obtain ⟨k, r, hk, rfl, rfl, hr0, hr1, hB, hb⟩ := hrel
    obtain ⟨wo, rfl⟩ : ∃ wo, wo = wr := ⟨_, rfl⟩
    have hz := hb.size
    have HBN := Lib.hid hB
    have HB := Lib.hid hb
    clear hB hb
    by_cases hlt : k < l.length
    · obtain ⟨b, o, ys, rfl, hbh, hyl, hp, hcell⟩ := (H0.out.step HB.out).at_ hlt
      have hld := loadAt_cells (P := Tryz.prog) (T := 66) (w := wo) (b := b) (o := o + k * 2) (cs := ys) Tryz.underlying66 rfl (by rw [hyl]; kernel_rfl) hcell
      have HLD := Lib.hid hld
      have HC : Hid (∀ wx, Below wo.heap.size wo wx → Calls Tryz.prog 34 #[.agg ⟨ys⟩, .int .i64 r] wx fun e w' => ∃ r2 : Int, e = .returned (.int .i64 r2) ∧ -1 ≤ r2 ∧ r2 ≤ r ∧ (0 ≤ r2 → progB l[k]) ∧ Below wx.heap.size wx w') := Lib.hid (fun wx hbx => L_szProgram wx (progE.keep hp (Up.of_below hbx)) hr0 (by omega))
      have i1 : (k : Int) < l.length := by omega
      have i2 : (0 : Int) ≤ k := by omega
      clear hcell hp hyl hld
      generalize Value.agg ⟨ys⟩ = V at *
      go_wp2_with (first | (refine wpList_loadE rfl 66 (.tmp 20) rfl rfl HLD.out ?_) | fail)
      refine (HC.out _ (by repeat (first | (with_reducible exact Below.refl _ _) | (with_reducible assumption) | ((with_reducible refine Below.alloc ?_ ?_ _); rotate_left; (first | omega | (simp <;> omega))) | ((with_reducible refine Below.setCell ?_ ?_ _); rotate_left; (first | omega | (simp <;> omega))) | (with_reducible refine below_drewN ?_ _) | (with_reducible refine Below.drew ?_) | ((with_reducible refine Below.step (by assumption) ?_ ?_); rotate_left; (first | omega | (simp <;> omega)))))).mono ?_
      rintro e wA ⟨r2, rfl, g1, g2, g3, hbA⟩
      have HB2 : Hid (Below w.heap.size w wA) := Lib.hid (Below.step hbA (by repeat (first | (with_reducible exact Below.refl _ _) | (with_reducible exact HB.out) | (with_reducible assumption) | ((with_reducible refine Below.alloc ?_ ?_ _); rotate_left; (first | omega | (simp <;> omega))) | ((with_reducible refine Below.setCell ?_ ?_ _); rotate_left; (first | omega | (simp <;> omega))) | (with_reducible refine below_drewN ?_ _) | (with_reducible refine Below.drew ?_) | ((with_reducible refine Below.step (by assumption) ?_ ?_); rotate_left; (first | omega | (simp <;> omega))))) (by first | omega | (simp <;> omega)))
      have HG3 := Lib.hid g3
      clear hbA g3
      rcases (show r2 < 0 ∨ 0 ≤ r2 by omega) with g4 | g4
      · go_wp2_with fail
        go_ret
        exact ⟨-1, rfl, by omega, by omega, fun h => absurd h (by omega), HB2.out⟩
      · have g5 : ¬ r2 < 0 := by omega
        go_wp2_with fail
        go_roundw
        case rel => exact ⟨k + 1, r2, by omega, by go_num, rfl, g4, by omega, fun j hj hjk => by
            by_cases e : j = k
            · subst e; exact HG3.out g4
            · exact HBN.out j hj (by omega), HB2.out⟩
        case measure => simp [RowKit.intOf] <;> omega
    · obtain rfl : k = l.length := by omega
      go_wp2_with fail
      go_ret
      exact ⟨r, rfl, by omega, by omega, fun _ => ⟨by omega, fun x hx => by obtain ⟨i, hi, rfl⟩ := List.getElem_of_mem hx; exact HBN.out i hi hi⟩, HB.out⟩
set_option maxHeartbeats 8000000 in
theorem L_toProgramS {lo : Nat} {A : Option Addr} {c : Nat} {l : List EProg} (w : World) (h : RowL progE lo w (.slice A l.length c) l) (hn : l.length ≤ 1048576) (hB : ∀ x ∈ l, progB x) :
    Calls Tryz.prog 20 #[.slice A l.length c] w fun e w' => ∃ v, e = .returned v ∧ RowL progE w.heap.size w' v l ∧ Below w.heap.size w w' := by
  have H0 := Lib.hid h
  have HBN := Lib.hid hB
  clear h hB
  have hmk := fun W => run_mk (P := Tryz.prog) 35 70 _ 2 48 Tryz.underlying35 T.infoProg l.length (by omega) (by omega) W
  have ho : Own (w.alloc (.cells (madeCells #[Value.slice none 0 0, .slice none 0 0] (l.length * 2)) 70)) w.heap.size 70 (madeCells #[Value.slice none 0 0, .slice none 0 0] (l.length * 2)).toList := Own.new _ _ _
  have hl : (madeCells #[Value.slice none 0 0, .slice none 0 0] (l.length * 2)).toList.length = l.length * 2 := by simp [size_madeCells]
  have HO := Lib.hid ho
  have HL := Lib.hid hl
  clear ho hl
  go_enter Tryz.func20, Tryz.ntmps20
  go_wp2_with fail
  clear hmk
  go_loopw [4] (fun i wr => ∃ (k : Nat) (cs : List Value), k ≤ l.length ∧ i = .int .i64 k ∧ FillL progE (w.heap.size + 1) wr l cs k ∧ Own wr w.heap.size 70 cs ∧ Below w.heap.size w wr) (fun i _ => l.length - (RowKit.intOf i).toNat)
  case atStart => exact ⟨0, _, Nat.zero_le _, rfl, ⟨HL.out, fun j hj h => absurd h (by omega)⟩, HO.out, (by repeat (first | (with_reducible exact Below.refl _ _) | (with_reducible assumption) | ((with_reducible refine Below.alloc ?_ ?_ _); rotate_left; (first | omega | (simp <;> omega))) | ((with_reducible refine Below.setCell ?_ ?_ _); rotate_left; (first | omega | (simp <;> omega))) | (with_reducible refine below_drewN ?_ _) | (with_reducible refine Below.drew ?_) | ((with_reducible refine Below.step (by assumption) ?_ ?_); rotate_left; (first | omega | (simp <;> omega)))))⟩
  case round =>
    obtain ⟨k, cs, hk, rfl, hf, ho, hb⟩ := hrel
    obtain ⟨wo, rfl⟩ : ∃ wo, wo = wr := ⟨_, rfl⟩
    have hol := ho.lt
    have hz := hb.size
    have HF := Lib.hid hf
    have HOW := Lib.hid ho
    have HB := Lib.hid hb
    clear hf ho hb HO HL
    by_cases hlt : k < l.length
    · obtain ⟨b, o, ys, rfl, hbh, hyl, hp, hcell⟩ := (H0.out.step HB.out).at_ hlt
      have hld := loadAt_cells (P := Tryz.prog) (T := 66) (w := wo) (b := b) (o := o + k * 2) (cs := ys) Tryz.underlying66 rfl (by rw [hyl]; kernel_rfl) hcell
      have HLD := Lib.hid hld
      have hbx := HBN.out _ (List.getElem_mem hlt)
      have HC : Hid (∀ wx, Below wo.heap.size wo wx → Calls Tryz.prog 48 #[.agg ⟨ys⟩] wx fun e w' => ∃ zs, e = .returned (.agg ⟨zs⟩) ∧ progE.P wx.heap.size w' zs l[k] ∧ Below wx.heap.size wx w') := Lib.hid (fun wx hb => L_toProgram wx (progE.keep hp (Up.of_below hb)) hbx)
      have i1 : (k : Int) < l.length := by omega
      have i2 : (0 : Int) ≤ k := by omega
      clear hcell hp hyl hld hbx
      generalize Value.agg ⟨ys⟩ = V at *
      go_wp2_with (first | (refine wpList_loadE rfl 66 (.tmp 19) rfl rfl HLD.out ?_) | (refine wpList_loadE rfl 66 (.tmp 18) rfl rfl HLD.out ?_) | fail)
      refine (HC.out _ (by repeat (first | (with_reducible exact Below.refl _ _) | (with_reducible assumption) | ((with_reducible refine Below.alloc ?_ ?_ _); rotate_left; (first | omega | (simp <;> omega))) | ((with_reducible refine Below.setCell ?_ ?_ _); rotate_left; (first | omega | (simp <;> omega))) | (with_reducible refine below_drewN ?_ _) | (with_reducible refine Below.drew ?_) | ((with_reducible refine Below.step (by assumption) ?_ ?_); rotate_left; (first | omega | (simp <;> omega)))))).mono ?_
      rintro e wA ⟨zs, rfl, hpz, hbA⟩
      have hzl := progE.len hpz
      have hAo : Own wA w.heap.size 70 cs := Own.step hbA HOW.out
      have hle : k * 2 + 2 ≤ l.length * 2 := by omega
      obtain ⟨w2, hst, ho2, hbk, hs2, e1, e2, e3⟩ := store_big (P := Tryz.prog) (T := 70) (zs := zs) (k := k * 2) hAo (by rw [hzl]; kernel_rfl) (by rw [HF.out.1, hzl]; exact hle) (progE.one hpz)
      rw [hzl] at ho2
      have hz4 := hbA.size
      have HST := Lib.hid hst
      have HO2 := Lib.hid ho2
      have hup : Up (w.heap.size + 1) wA w2 := ⟨by omega, fun b h _ => hbk b (by omega)⟩
      have HF2 : Hid (FillL progE (w.heap.size + 1) w2 l (cs.take (k * 2) ++ zs ++ cs.drop (k * 2 + 2)) (k + 1)) := Lib.hid (((HF.out.keep (Up.of_below hbA)).keep hup).succ hlt (progE.keep (progE.mono hpz (by omega)) hup))
      have HB2 : Hid (Below w.heap.size w w2) := Lib.hid (Below.trans (Below.step hbA HB.out HB.out.size) ⟨e1, e2, e3, by omega, fun b h => hbk b (by omega)⟩)
      clear hpz hbA hAo hst ho2 hbk hs2 e1 e2 e3 hup hzl
      go_wp2_with (first | (refine wpList_storeE rfl 70 (.tmp 21) (.tmp 20) rfl rfl rfl HST.out ?_) | fail)
      go_roundw
      case rel => exact ⟨k + 1, _, by omega, by go_num, HF2.out, HO2.out, HB2.out⟩
      case measure => simp [RowKit.intOf] <;> omega
    · obtain rfl : k = l.length := by omega
      go_wp2_with fail
      go_ret
      refine ⟨_, rfl, ⟨some ⟨w.heap.size, 0, none⟩, l.length, cs, rfl, HOW.out.rs HF.out.1 hn, fun x hx => by simp [gOf] at hx; omega, fun i hi => progE.mono (HF.out.2 i hi hi) (by omega)⟩, HB.out⟩
set_option maxHeartbeats 8000000 in
theorem L_eqProgramS {lo lo' : Nat} {A A2 : Option Addr} {c c2 : Nat} {l : List EProg} (w : World) (h : RowL progE lo w (.slice A l.length c) l) (h' : RowL progE lo' w (.slice A2 l.length c2) l) :
    Calls Tryz.prog 27 #[.slice A l.length c, .slice A2 l.length c2] w fun e w' => e = .returned (.bool true) ∧ Below w.heap.size w w' := by
  obtain ⟨A0, c0, e0, hlc, hcm⟩ := h.slice
  injection e0 with e1 e2 e3
  subst e1; subst e3
  unfold maxLen at hcm
  have H0 := Lib.hid h
  have H1 := Lib.hid h'
  have hne : ((l.length : Int) != (l.length : Int)) = false := by simp
  clear h h' e2
  go_enter Tryz.func27, Tryz.ntmps27
  go_wp2_with fail
  go_loopw [5] (fun i wr => ∃ k : Nat, k ≤ l.length ∧ i = .int .i64 k ∧ Below w.heap.size w wr) (fun i _ => l.length - (RowKit.intOf i).toNat)
  case atStart => exact ⟨0, Nat.zero_le _, rfl, (by repeat (first | (with_reducible exact Below.refl _ _) | (with_reducible assumption) | ((with_reducible refine Below.alloc ?_ ?_ _); rotate_left; (first | omega | (simp <;> omega))) | ((with_reducible refine Below.setCell ?_ ?_ _); rotate_left; (first | omega | (simp <;> omega))) | (with_reducible refine below_drewN ?_ _) | (with_reducible refine Below.drew ?_) | ((with_reducible refine Below.step (by assumption) ?_ ?_); rotate_left; (first | omega | (simp <;> omega)))))⟩
  case round =>
    obtain ⟨k, hk, rfl, hb⟩ := hrel
    obtain ⟨wo, rfl⟩ : ∃ wo, wo = wr := ⟨_, rfl⟩
    have hz := hb.size
    have HB := Lib.hid hb
    clear hb
    by_cases hlt : k < l.length
    · obtain ⟨b, o, ys, rfl, hbh, hyl, hp, hcell⟩ := (H0.out.step HB.out).at_ hlt
      obtain ⟨b', o', ys', rfl, hbh', hyl', hp', hcell'⟩ := (H1.out.step HB.out).at_ hlt
      have HLD : Hid (∀ wx, (∀ o, wx.cell? ⟨b, o, none⟩ = wo.cell? ⟨b, o, none⟩) → (Instr.loadAt 70 (.pointer (some ⟨b, o + k * 2, none⟩))).run Tryz.prog wx = .ok (.agg ⟨ys⟩) wx) := Lib.hid (fun wx hx => loadAt_cells (P := Tryz.prog) Tryz.underlying70 rfl (by rw [hyl]; kernel_rfl) (fun j v hv => by rw [hx]; exact hcell j v hv))
      have HLD' : Hid (∀ wx, (∀ o, wx.cell? ⟨b', o, none⟩ = wo.cell? ⟨b', o, none⟩) → (Instr.loadAt 70 (.pointer (some ⟨b', o' + k * 2, none⟩))).run Tryz.prog wx = .ok (.agg ⟨ys'⟩) wx) := Lib.hid (fun wx hx => loadAt_cells (P := Tryz.prog) Tryz.underlying70 rfl (by rw [hyl']; kernel_rfl) (fun j v hv => by rw [hx]; exact hcell' j v hv))
      have HC : Hid (∀ wx, Below wo.heap.size wo wx → Calls Tryz.prog 64 #[.agg ⟨ys⟩, .agg ⟨ys'⟩] wx fun e w' => e = .returned (.bool true) ∧ Below wx.heap.size wx w') := Lib.hid (fun wx hb => L_eqProgram wx (progE.keep hp (Up.of_below hb)) (progE.keep hp' (Up.of_below hb)))
      have i1 : (k : Int) < l.length := by omega
      have i2 : (0 : Int) ≤ k := by omega
      clear hcell hp hyl hcell' hp' hyl'
      generalize Value.agg ⟨ys⟩ = V at *
      generalize Value.agg ⟨ys'⟩ = V' at *
      go_upto_region 6 with fail
      refine wp_region_held_drew (S := fun w' => (Instr.loadAt 70 (.pointer (some ⟨b, o + k * 2, none⟩))).run Tryz.prog w' = .ok V w' ∧ (Instr.loadAt 70 (.pointer (some ⟨b', o' + k * 2, none⟩))).run Tryz.prog w' = .ok V' w') (by kernel_rfl) ?_ (fun hHeld1 => ?_)
      · exact ⟨HLD.out _ (fun _ => rfl), HLD'.out _ (fun _ => rfl)⟩
      (refine wpAnyH_take (i := 0) (v := ?_) rfl (by kernel_rfl) (by kernel_rfl) (by kernel_rfl) (fun _ _ _ h => h) (Or.inl ⟨by rfl, ?_⟩) (by assumption) ?_; rotate_left; focus (intro w hSw; (try dsimp only at hSw); go_simp; try with_reducible rfl)); (try simp only [List.getElem_toArray, List.getElem_cons_succ, List.getElem_cons_zero, Act.put, List.setIfInBounds_toArray, List.set_cons_zero, List.set_cons_succ])
      (refine wpAnyH_take (i := 1) (v := ?_) rfl (by kernel_rfl) (by kernel_rfl) (by kernel_rfl) (fun _ _ _ h => h) (Or.inl ⟨by rfl, ?_⟩) (by assumption) ?_; rotate_left; focus (intro w hSw; (try dsimp only at hSw); go_simp; try with_reducible rfl)); (try simp only [List.getElem_toArray, List.getElem_cons_succ, List.getElem_cons_zero, Act.put, List.setIfInBounds_toArray, List.set_cons_zero, List.set_cons_succ])
      (refine wpAnyH_take (i := 2) (v := ?_) rfl (by kernel_rfl) (by kernel_rfl) (by kernel_rfl) (fun _ _ _ h => h) (Or.inl ⟨by rfl, ?_⟩) (by assumption) ?_; rotate_left; focus (intro w hSw; (try dsimp only at hSw); go_simp; try with_reducible rfl)); (try simp only [List.getElem_toArray, List.getElem_cons_succ, List.getElem_cons_zero, Act.put, List.setIfInBounds_toArray, List.set_cons_zero, List.set_cons_succ])
      (refine wpAnyH_take (i := 3) (v := V) rfl (by kernel_rfl) (by kernel_rfl) (by kernel_rfl) (fun _ _ _ h => h) (Or.inl ⟨by rfl, fun w hSw => run_loadE rfl rfl hSw.1⟩) (by assumption) ?_); (try simp only [List.getElem_toArray, List.getElem_cons_succ, List.getElem_cons_zero, Act.put, List.setIfInBounds_toArray, List.set_cons_zero, List.set_cons_succ])
      (refine wpAnyH_take (i := 4) (v := ?_) rfl (by kernel_rfl) (by kernel_rfl) (by kernel_rfl) (fun _ _ _ h => h) (Or.inl ⟨by rfl, ?_⟩) (by assumption) ?_; rotate_left; focus (intro w hSw; (try dsimp only at hSw); go_simp; try with_reducible rfl)); (try simp only [List.getElem_toArray, List.getElem_cons_succ, List.getElem_cons_zero, Act.put, List.setIfInBounds_toArray, List.set_cons_zero, List.set_cons_succ])
      (refine wpAnyH_take (i := 5) (v := ?_) rfl (by kernel_rfl) (by kernel_rfl) (by kernel_rfl) (fun _ _ _ h => h) (Or.inl ⟨by rfl, ?_⟩) (by assumption) ?_; rotate_left; focus (intro w hSw; (try dsimp only at hSw); go_simp; try with_reducible rfl)); (try simp only [List.getElem_toArray, List.getElem_cons_succ, List.getElem_cons_zero, Act.put, List.setIfInBounds_toArray, List.set_cons_zero, List.set_cons_succ])
      (refine wpAnyH_take (i := 6) (v := ?_) rfl (by kernel_rfl) (by kernel_rfl) (by kernel_rfl) (fun _ _ _ h => h) (Or.inl ⟨by rfl, ?_⟩) (by assumption) ?_; rotate_left; focus (intro w hSw; (try dsimp only at hSw); go_simp; try with_reducible rfl)); (try simp only [List.getElem_toArray, List.getElem_cons_succ, List.getElem_cons_zero, Act.put, List.setIfInBounds_toArray, List.set_cons_zero, List.set_cons_succ])
      (refine wpAnyH_take (i := 7) (v := V') rfl (by kernel_rfl) (by kernel_rfl) (by kernel_rfl) (fun _ _ _ h => h) (Or.inl ⟨by rfl, fun w hSw => run_loadE rfl rfl hSw.2⟩) (by assumption) ?_); (try simp only [List.getElem_toArray, List.getElem_cons_succ, List.getElem_cons_zero, Act.put, List.setIfInBounds_toArray, List.set_cons_zero, List.set_cons_succ])
      refine wpAnyH_ready (rs := [8]) (by kernel_rfl) (by simp) ?_
      refine AllReadyH.cons rfl (fun K hK => ?_) AllReadyH.nil
      go_simp
      (go_at_call 64; (refine (HC.out _ (by repeat (first | (with_reducible exact Below.refl _ _) | (with_reducible assumption) | ((with_reducible refine Below.alloc ?_ ?_ _); rotate_left; (first | omega | (simp <;> omega))) | ((with_reducible refine Below.setCell ?_ ?_ _); rotate_left; (first | omega | (simp <;> omega))) | (with_reducible refine below_drewN ?_ _) | (with_reducible refine Below.drew ?_) | ((with_reducible refine Below.step (by assumption) ?_ ?_); rotate_left; (first | omega | (simp <;> omega)))))).mono ?_); rintro e wA ⟨rfl, hbA⟩)
      (try go_wp2_with fail)
      refine hK.out _ _ ?_ (fun hHeld2 => ?_)
      · exact ⟨HLD.out _ (fun p => hbA.cell (p := ⟨b, p, none⟩) (by simpa using hbh)), HLD'.out _ (fun p => hbA.cell (p := ⟨b', p, none⟩) (by simpa using hbh'))⟩
      have HB2 : Hid (Below w.heap.size w wA) := Lib.hid (Below.step hbA (by repeat (first | (with_reducible exact Below.refl _ _) | (with_reducible exact HB.out) | (with_reducible assumption) | ((with_reducible refine Below.alloc ?_ ?_ _); rotate_left; (first | omega | (simp <;> omega))) | ((with_reducible refine Below.setCell ?_ ?_ _); rotate_left; (first | omega | (simp <;> omega))) | (with_reducible refine below_drewN ?_ _) | (with_reducible refine Below.drew ?_) | ((with_reducible refine Below.step (by assumption) ?_ ?_); rotate_left; (first | omega | (simp <;> omega))))) (by first | omega | (simp <;> omega)))
      clear hK K hHeld1 hbA
      (try simp only [List.getElem_toArray, List.getElem_cons_succ, List.getElem_cons_zero, Act.put, List.setIfInBounds_toArray, List.set_cons_zero, List.set_cons_succ])
      (refine wpAnyH_take (i := 9) (v := ?_) rfl (by kernel_rfl) (by kernel_rfl) (by kernel_rfl) (fun _ _ _ h => h) (Or.inl ⟨by rfl, ?_⟩) (by assumption) ?_; rotate_left; focus (intro w hSw; (try dsimp only at hSw); go_simp; try with_reducible rfl)); (try simp only [List.getElem_toArray, List.getElem_cons_succ, List.getElem_cons_zero, Act.put, List.setIfInBounds_toArray, List.set_cons_zero, List.set_cons_succ])
      refine wpAnyH_done (by kernel_rfl) ?_ _
      all_goals
        go_wp2_with fail
        go_roundw
        case rel => exact ⟨k + 1, by omega, by go_num, (by repeat (first | (with_reducible exact Below.refl _ _) | (with_reducible exact HB2.out) | (with_reducible assumption) | ((with_reducible refine Below.alloc ?_ ?_ _); rotate_left; (first | omega | (simp <;> omega))) | ((with_reducible refine Below.setCell ?_ ?_ _); rotate_left; (first | omega | (simp <;> omega))) | (with_reducible refine below_drewN ?_ _) | (with_reducible refine Below.drew ?_) | ((with_reducible refine Below.step (by assumption) ?_ ?_); rotate_left; (first | omega | (simp <;> omega)))))⟩
        case measure => simp [RowKit.intOf] <;> omega
    · obtain rfl : k = l.length := by omega
      go_wp2_with fail
      go_ret
      exact ⟨rfl, HB.out⟩
end Go.Proofs.YtjipfgadamokaaaGreatDoor
