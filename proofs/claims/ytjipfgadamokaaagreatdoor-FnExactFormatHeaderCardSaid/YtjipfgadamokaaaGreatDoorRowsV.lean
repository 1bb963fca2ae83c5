/- MADE BY PROGRAM (genrowl.py). Surfaces: the laws' own helpers on rows. -/
import Derived.Test.YtjipfgadamokaaaGreatDoorRowsU
set_option linter.unusedVariables false
set_option linter.unusedSimpArgs false
namespace Go.Proofs.YtjipfgadamokaaaGreatDoor
open Go.RowKit Go.Lib
set_option maxRecDepth 100000
def c26 (p q : EPatch) (sh rt : Int) : List Value := c12 p ++ (c12 q ++ [.int .i64 sh, .int .i64 rt])
theorem c26_len (p q : EPatch) (sh rt : Int) : (c26 p q sh rt).length = 26 := by simp [c26, c12_len]
theorem c26_p {p q : EPatch} {sh rt : Int} {j : Nat} {v : Value} (h : (c12 p)[j]? = some v) : (c26 p q sh rt)[j]? = some v := by
  have hj : j < (c12 p).length := (List.getElem?_eq_some_iff.1 h).1
  unfold c26
  rw [List.getElem?_append_left hj]; exact h
theorem c26_q {p q : EPatch} {sh rt : Int} {j : Nat} {v : Value} (h : (c12 q)[j]? = some v) : (c26 p q sh rt)[12 + j]? = some v := by
  have hj : j < (c12 q).length := (List.getElem?_eq_some_iff.1 h).1
  unfold c26
  rw [List.getElem?_append_right (by rw [c12_len]; omega), c12_len, show 12 + j - 12 = j by omega, List.getElem?_append_left hj]; exact h
theorem c26_arr (p q : EPatch) (sh rt : Int) : c26 p q sh rt = cSurf p q sh rt := rfl
def surfE : Elem ESurf where
  sz := 26
  P := fun lo w ys x => ys = c26 x.1 x.2.1 x.2.2.1 x.2.2.2
  len := by rintro lo w ys x rfl; exact c26_len _ _ _ _
  one := by rintro lo w ys x rfl; rfl
  keep := by rintro lo w w' ys x h hu; exact h
  mono := by rintro lo lo' w ys x h hl; exact h
def surfB (x : ESurf) : Prop := True
theorem T.infoSurf3 : (Tryz.prog.info? 79).map (fun i => (i.zero, i.size, i.bytes)) = some (some (.agg ⟨z26⟩), 26, 208) := by kernel_rfl
set_option maxHeartbeats 16000000 in
theorem L_toSurface {lo : Nat} {ys : List Value} {x : ESurf} (w : World) (h : surfE.P lo w ys x) (hB : surfB x) :
    Calls Tryz.prog 49 #[.agg ⟨ys⟩] w fun e w' => ∃ zs, e = .returned (.agg ⟨zs⟩) ∧ surfE.P w.heap.size w' zs x ∧ Below w.heap.size w w' := by
  obtain ⟨p, q, sh, rt⟩ := x
  obtain rfl : ys = c26 p q sh rt := h
  have hal : ∀ wx : World, (Instr.alloc 79 true (.tuple #[])).run Tryz.prog wx = .ok (.pointer (some ⟨wx.heap.size, 0, none⟩)) (wx.alloc (.cells ⟨z26⟩ 79)) := fun wx => by kernel_rfl
  have HA0 : Hid (Own (((w.alloc (.cells ⟨c26 p q sh rt⟩ 100)).alloc (.cells ⟨z26⟩ 79)).alloc (.cells ⟨z26⟩ 79)) w.heap.size 100 (c26 p q sh rt)) := Lib.hid (Own.alloc (Own.alloc (Own.new w _ _) _) _)
  have HA1 : Hid (Own (((w.alloc (.cells ⟨c26 p q sh rt⟩ 100)).alloc (.cells ⟨z26⟩ 79)).alloc (.cells ⟨z26⟩ 79)) (w.heap.size + 1) 79 z26) := Lib.hid (Own.alloc (Own.at_new (cs := ⟨z26⟩) (by simp)) _)
  have HA2 : Hid (Own (((w.alloc (.cells ⟨c26 p q sh rt⟩ 100)).alloc (.cells ⟨z26⟩ 79)).alloc (.cells ⟨z26⟩ 79)) (w.heap.size + 1 + 1) 79 z26) := Lib.hid (Own.at_new (cs := ⟨z26⟩) (by simp))
  have HLD : Hid ((Instr.loadAt 98 (.pointer (some ⟨w.heap.size, 0, none⟩))).run Tryz.prog (((w.alloc (.cells ⟨c26 p q sh rt⟩ 100)).alloc (.cells ⟨z26⟩ 79)).alloc (.cells ⟨z26⟩ 79)) = .ok (.agg ⟨c12 p⟩) (((w.alloc (.cells ⟨c26 p q sh rt⟩ 100)).alloc (.cells ⟨z26⟩ 79)).alloc (.cells ⟨z26⟩ 79))) := Lib.hid (loadAt_cells (P := Tryz.prog) Tryz.underlying98 rfl (by rw [c12_len]; kernel_rfl) (fun j v hv => by rw [Nat.zero_add, HA0.out.cell]; exact c26_p hv))
  go_enter Tryz.func49, Tryz.ntmps49
  go_wp2_with (first | (refine wpList_allocE rfl 79 rfl (hal _) ?_) | (refine wpList_loadE rfl 98 (.tmp 4) rfl rfl HLD.out ?_) | fail)
  clear hal
  refine (L_toPatch p _).mono ?_
  rintro e wA ⟨rfl, hbA⟩
  have hzA := hbA.size
  (try simp at hzA)
  obtain ⟨w2, hst, hs, hbk, hs2, e1, e2, e3⟩ := store_big (P := Tryz.prog) (T := 77) (zs := c12 p) (k := 0) (Own.step hbA HA2.out) (by rw [c12_len]; kernel_rfl) (by rw [c12_len]; decide) (by rfl)
  have HST := Lib.hid hst
  have HO2 : Hid (Own w2 (w.heap.size + 1 + 1) 79 (c12 p ++ List.replicate 14 (.int .i64 0))) := Lib.hid (by have := hs; rw [c12_len] at this; exact this)
  have HO1 : Hid (Own w2 (w.heap.size + 1) 79 z26) := Lib.hid ((hbk _ (by omega)).trans (Own.step hbA HA1.out))
  have HO0 : Hid (Own w2 w.heap.size 100 (c26 p q sh rt)) := Lib.hid ((hbk _ (by omega)).trans (Own.step hbA HA0.out))
  have HB2 : Hid (Below w.heap.size w w2) := Lib.hid (Below.trans (Below.step hbA (by repeat (first | (with_reducible exact Below.refl _ _) | (with_reducible assumption) | ((with_reducible refine Below.alloc ?_ ?_ _); rotate_left; (first | omega | (simp <;> omega))) | ((with_reducible refine Below.setCell ?_ ?_ _); rotate_left; (first | omega | (simp <;> omega))) | (with_reducible refine below_drewN ?_ _) | (with_reducible refine Below.drew ?_) | ((with_reducible refine Below.step (by assumption) ?_ ?_); rotate_left; (first | omega | (simp <;> omega))))) (by first | omega | (simp <;> omega))) ⟨e1, e2, e3, by omega, fun b h => hbk b (by omega)⟩)
  have HLD2 : Hid ((Instr.loadAt 98 (.pointer (some ⟨w.heap.size, 12, none⟩))).run Tryz.prog w2 = .ok (.agg ⟨c12 q⟩) w2) := Lib.hid (loadAt_cells (P := Tryz.prog) Tryz.underlying98 rfl (by rw [c12_len]; kernel_rfl) (fun j v hv => by rw [HO0.out.cell]; exact c26_q hv))
  clear hbA hst hs hbk e1 e2 e3 HLD HA0 HA1 HA2
  go_wp2_with (first | (refine wpList_storeE rfl 77 (.tmp 7) (.tmp 6) rfl rfl rfl HST.out ?_) | (refine wpList_loadE rfl 98 (.tmp 8) rfl rfl HLD2.out ?_) | fail)
  refine (L_toPatch q _).mono ?_
  rintro e wB ⟨rfl, hbB⟩
  have hzB := hbB.size
  obtain ⟨w3, hst, hs, hbk, hs3, e1, e2, e3⟩ := store_big (P := Tryz.prog) (T := 77) (zs := c12 q) (k := 12) (Own.step hbB HO2.out) (by rw [c12_len]; kernel_rfl) (by rw [c12_len, List.length_append, c12_len]; decide) (by rfl)
  have HST3 := Lib.hid hst
  have HO2' : Hid (Own w3 (w.heap.size + 1 + 1) 79 (c12 p ++ (c12 q ++ [.int .i64 0, .int .i64 0]))) := Lib.hid (by have := hs; rw [c12_len] at this; exact this)
  have HO1' : Hid (Own w3 (w.heap.size + 1) 79 z26) := Lib.hid ((hbk _ (by omega)).trans (Own.step hbB HO1.out))
  have HO0' : Hid (Own w3 w.heap.size 100 (c26 p q sh rt)) := Lib.hid ((hbk _ (by omega)).trans (Own.step hbB HO0.out))
  have HB3 : Hid (Below w.heap.size w w3) := Lib.hid (Below.trans (Below.step hbB HB2.out HB2.out.size) ⟨e1, e2, e3, by omega, fun b h => hbk b (by omega)⟩)
  have x24 : w3.cell? ⟨w.heap.size, 24, none⟩ = some (.int .i64 sh) := HO0'.out.cell 24
  have x25 : w3.cell? ⟨w.heap.size, 25, none⟩ = some (.int .i64 rt) := HO0'.out.cell 25
  have y24 : w3.cell? ⟨w.heap.size + 1 + 1, 24, none⟩ = some (.int .i64 0) := HO2'.out.cell 24
  have y25 : w3.cell? ⟨w.heap.size + 1 + 1, 25, none⟩ = some (.int .i64 0) := HO2'.out.cell 25
  have f24 : w3.frozen? ⟨w.heap.size + 1 + 1, 24, none⟩ = false := HO2'.out.frozen 24
  have f25 : w3.frozen? ⟨w.heap.size + 1 + 1, 25, none⟩ = false := HO2'.out.frozen 25
  have hl3 := HO2'.out.lt
  have HO4 : Hid (Own ((w3.setCell ⟨w.heap.size + 1 + 1, 24, none⟩ (.int .i64 sh)).setCell ⟨w.heap.size + 1 + 1, 25, none⟩ (.int .i64 rt)) (w.heap.size + 1 + 1) 79 (c26 p q sh rt)) := Lib.hid ((HO2'.out.set_ 24 (.int .i64 sh)).set_ 25 (.int .i64 rt))
  have HO5 : Hid (Own ((w3.setCell ⟨w.heap.size + 1 + 1, 24, none⟩ (.int .i64 sh)).setCell ⟨w.heap.size + 1 + 1, 25, none⟩ (.int .i64 rt)) (w.heap.size + 1) 79 z26) := Lib.hid ((HO1'.out.far (p := ⟨w.heap.size + 1 + 1, 24, none⟩) (by show w.heap.size + 1 ≠ w.heap.size + 1 + 1; omega) _).far (p := ⟨w.heap.size + 1 + 1, 25, none⟩) (by show w.heap.size + 1 ≠ w.heap.size + 1 + 1; omega) _)
  have HLD4 : Hid ((Instr.loadAt 79 (.pointer (some ⟨w.heap.size + 1 + 1, 0, none⟩))).run Tryz.prog ((w3.setCell ⟨w.heap.size + 1 + 1, 24, none⟩ (.int .i64 sh)).setCell ⟨w.heap.size + 1 + 1, 25, none⟩ (.int .i64 rt)) = .ok (.agg ⟨c26 p q sh rt⟩) _) := Lib.hid (loadAt_cells (P := Tryz.prog) Tryz.underlying79 rfl (by rw [c26_len]; kernel_rfl) (fun j v hv => by rw [Nat.zero_add, HO4.out.cell]; exact hv))
  obtain ⟨w5, hst5, hs5, hbk5, hs6, g1, g2, g3⟩ := store_big (P := Tryz.prog) (T := 79) (zs := c26 p q sh rt) (k := 0) HO5.out (by rw [c26_len]; kernel_rfl) (by rw [c26_len]; decide) (by rfl)
  have HST5 := Lib.hid hst5
  have HR : Hid (w5.heap[w.heap.size + 1]? = some (.cells ⟨c26 p q sh rt⟩ 79 (0, 0))) := Lib.hid (by have := hs5; unfold Own at this; rw [this]; rw [c26_len]; simp [z26])
  have HB4 : Hid (Below w.heap.size w ((w3.setCell ⟨w.heap.size + 1 + 1, 24, none⟩ (.int .i64 sh)).setCell ⟨w.heap.size + 1 + 1, 25, none⟩ (.int .i64 rt))) := Lib.hid ((HB3.out.setCell (p := ⟨w.heap.size + 1 + 1, 24, none⟩) (by show w.heap.size ≤ w.heap.size + 1 + 1; omega) _).setCell (p := ⟨w.heap.size + 1 + 1, 25, none⟩) (by show w.heap.size ≤ w.heap.size + 1 + 1; omega) _)
  have HB5 : Hid (Below w.heap.size w w5) := Lib.hid (Below.trans HB4.out ⟨g1, g2, g3, by omega, fun b h => hbk5 b (by omega)⟩)
  clear hbB hst hs hbk e1 e2 e3 hst5 hs5 hbk5 hs6 g1 g2 g3
  go_wp2_with (first | (refine wpList_storeE rfl 77 (.tmp 11) (.tmp 10) rfl rfl rfl HST3.out ?_) | (refine wpList_loadE rfl 79 (.tmp 3) rfl rfl HLD4.out ?_) | (refine wpList_storeE rfl 79 (.tmp 2) (.tmp 18) rfl rfl rfl HST5.out ?_) | fail)
  exact bodyPost_ret (v := .agg ⟨c26 p q sh rt⟩) (results_cell_row Tryz.results49 _ _ (w.heap.size + 1) _ _ (0, 0) _ rfl HR.out Tryz.underlying79 rfl (by kernel_rfl)) rfl ⟨_, rfl, rfl, HB5.out⟩
set_option maxHeartbeats 16000000 in
theorem L_eqSurface {lo lo' : Nat} {ys ys' : List Value} {x : ESurf} (w : World) (h : surfE.P lo w ys x) (h' : surfE.P lo' w ys' x) :
    Calls Tryz.prog 65 #[.agg ⟨ys⟩, .agg ⟨ys'⟩] w fun e w' => e = .returned (.bool true) ∧ Below w.heap.size w w' := by
  obtain ⟨p, q, sh, rt⟩ := x
  obtain rfl : ys = c26 p q sh rt := h
  obtain rfl : ys' = c26 p q sh rt := h'
  have HA0 : Hid (Own ((w.alloc (.cells ⟨c26 p q sh rt⟩ 79)).alloc (.cells ⟨c26 p q sh rt⟩ 79)) w.heap.size 79 (c26 p q sh rt)) := Lib.hid (Own.alloc (Own.new w _ _) _)
  have HA1 : Hid (Own ((w.alloc (.cells ⟨c26 p q sh rt⟩ 79)).alloc (.cells ⟨c26 p q sh rt⟩ 79)) (w.heap.size + 1) 79 (c26 p q sh rt)) := Lib.hid (Own.at_new (cs := ⟨c26 p q sh rt⟩) (by simp))
  have HLP : Hid (∀ wx b, Own wx b 79 (c26 p q sh rt) → (Instr.loadAt 77 (.pointer (some ⟨b, 0, none⟩))).run Tryz.prog wx = .ok (.agg ⟨c12 p⟩) wx) := Lib.hid (fun wx b ho => loadAt_cells (P := Tryz.prog) Tryz.underlying77 rfl (by rw [c12_len]; kernel_rfl) (fun j v hv => by rw [Nat.zero_add, ho.cell]; exact c26_p hv))
  have HLQ : Hid (∀ wx b, Own wx b 79 (c26 p q sh rt) → (Instr.loadAt 77 (.pointer (some ⟨b, 12, none⟩))).run Tryz.prog wx = .ok (.agg ⟨c12 q⟩) wx) := Lib.hid (fun wx b ho => loadAt_cells (P := Tryz.prog) Tryz.underlying77 rfl (by rw [c12_len]; kernel_rfl) (fun j v hv => by rw [ho.cell]; exact c26_q hv))
  have e1 : (sh != sh) = false := by simp
  have e2 : (rt != rt) = false := by simp
  go_enter Tryz.func65, Tryz.ntmps65
  go_wp2_with (first | (refine wpList_loadE rfl 77 (.tmp 5) rfl rfl (HLP.out _ _ HA0.out) ?_) | (refine wpList_loadE rfl 77 (.tmp 7) rfl rfl (HLP.out _ _ HA1.out) ?_) | fail)
  refine (L_eqPatch p _).mono ?_
  rintro e wA ⟨rfl, hbA⟩
  have HB0 : Hid (Own wA w.heap.size 79 (c26 p q sh rt)) := Lib.hid (Own.step hbA HA0.out)
  have HB1 : Hid (Own wA (w.heap.size + 1) 79 (c26 p q sh rt)) := Lib.hid (Own.step hbA HA1.out)
  have HBA : Hid (Below w.heap.size w wA) := Lib.hid (Below.step hbA (by repeat (first | (with_reducible exact Below.refl _ _) | (with_reducible assumption) | ((with_reducible refine Below.alloc ?_ ?_ _); rotate_left; (first | omega | (simp <;> omega))) | ((with_reducible refine Below.setCell ?_ ?_ _); rotate_left; (first | omega | (simp <;> omega))) | (with_reducible refine below_drewN ?_ _) | (with_reducible refine Below.drew ?_) | ((with_reducible refine Below.step (by assumption) ?_ ?_); rotate_left; (first | omega | (simp <;> omega))))) (by first | omega | (simp <;> omega)))
  clear hbA HA0 HA1
  go_wp2_with (first | (refine wpList_loadE rfl 77 (.tmp 11) rfl rfl (HLQ.out _ _ HB0.out) ?_) | (refine wpList_loadE rfl 77 (.tmp 13) rfl rfl (HLQ.out _ _ HB1.out) ?_) | fail)
  refine (L_eqPatch q _).mono ?_
  rintro e wB ⟨rfl, hbB⟩
  have HC0 : Own wB w.heap.size 79 (c26 p q sh rt) := Own.step hbB HB0.out
  have HC1 : Own wB (w.heap.size + 1) 79 (c26 p q sh rt) := Own.step hbB HB1.out
  have x24 : wB.cell? ⟨w.heap.size, 24, none⟩ = some (.int .i64 sh) := HC0.cell 24
  have x25 : wB.cell? ⟨w.heap.size, 25, none⟩ = some (.int .i64 rt) := HC0.cell 25
  have y24 : wB.cell? ⟨w.heap.size + 1, 24, none⟩ = some (.int .i64 sh) := HC1.cell 24
  have y25 : wB.cell? ⟨w.heap.size + 1, 25, none⟩ = some (.int .i64 rt) := HC1.cell 25
  have HBB : Hid (Below w.heap.size w wB) := Lib.hid (Below.step hbB HBA.out HBA.out.size)
  clear hbB HC0 HC1
  go_wp2_with fail
  go_ret
  exact ⟨rfl, HBB.out⟩
set_option maxHeartbeats 4000000 in
theorem L_szSurfaceS {A : Option Addr} {n c : Nat} {left : Int} (w : World) (hl : 0 ≤ left) (hl2 : left ≤ 1048576) (hn : n ≤ maxLen) :
    Calls Tryz.prog 14 #[.slice A n c, .int .i64 left] w fun e w' => e = .returned (.int .i64 (szF left n)) ∧ w = w' := by
  unfold maxLen at hn
  go_enter Tryz.func14, Tryz.ntmps14
  go_wp2
  all_goals
    go_ret
    exact ⟨ret_int (by unfold szF; split <;> omega), rfl⟩
set_option maxHeartbeats 8000000 in
theorem L_toSurfaceS {lo : Nat} {A : Option Addr} {c : Nat} {l : List ESurf} (w : World) (h : RowL surfE lo w (.slice A l.length c) l) (hn : l.length ≤ 1048576) (hB : ∀ x ∈ l, surfB x) :
    Calls Tryz.prog 21 #[.slice A l.length c] w fun e w' => ∃ v, e = .returned v ∧ RowL surfE w.heap.size w' v l ∧ Below w.heap.size w w' := by
  have H0 := Lib.hid h
  have HBN := Lib.hid hB
  clear h hB
  have hmk := fun W => run_mk (P := Tryz.prog) 36 79 _ 26 208 Tryz.underlying36 T.infoSurf3 l.length (by omega) (by omega) W
  have ho : Own (w.alloc (.cells (madeCells z26.toArray (l.length * 26)) 79)) w.heap.size 79 (madeCells z26.toArray (l.length * 26)).toList := Own.new _ _ _
  have hl : (madeCells z26.toArray (l.length * 26)).toList.length = l.length * 26 := by simp [size_madeCells]
  have HO := Lib.hid ho
  have HL := Lib.hid hl
  clear ho hl
  go_enter Tryz.func21, Tryz.ntmps21
  go_wp2_with fail
  clear hmk
  go_loopw [4] (fun i wr => ∃ (k : Nat) (cs : List Value), k ≤ l.length ∧ i = .int .i64 k ∧ FillL surfE (w.heap.size + 1) wr l cs k ∧ Own wr w.heap.size 79 cs ∧ Below w.heap.size w wr) (fun i _ => l.length - (RowKit.intOf i).toNat)
  case atStart => exact ⟨0, _, Nat.zero_le _, rfl, ⟨HL.out, fun j hj h => absurd h (by omega)⟩, HO.out, (by repeat (first | (with_reducible exact Below.refl _ _) | (with_reducible assumption) | ((with_reducible refine Below.alloc ?_ ?_ _); rotate_left; (first | omega | (simp <;> omega))) | ((with_reducible refine Below.setCell ?_ ?_ _); rotate_left; (first | omega | (simp <;> omega))) | (with_reducible refine below_drewN ?_ _) | (with_reducible refine Below.drew ?_) | ((with_reducible refine Below.step (by assumption) ?_ ?_); rotate_left; (first | omega | (simp <;> omega)))))⟩
  case round =>
    obtain ⟨k, cs, hk, rfl, hf, ho, hb⟩ := hrel
    obtain ⟨wo, rfl⟩ : ∃ wo, wo = wr := ⟨_, rfl⟩
    have hol := ho.lt
    have hz := hb.size
    have HF := Lib.hid hf
    have HOW := Lib.hid ho
    have HB := Lib.hid hb
    clear hf ho hb HO HL
    by_cases hlt : k < l.length
    · obtain ⟨b, o, ys, rfl, hbh, hyl, hp, hcell⟩ := (H0.out.step HB.out).at_ hlt
      have hld := loadAt_cells (P := Tryz.prog) (T := 100) (w := wo) (b := b) (o := o + k * 26) (cs := ys) Tryz.underlying100 rfl (by rw [hyl]; kernel_rfl) hcell
      have HLD := Lib.hid hld
      have hbx := HBN.out _ (List.getElem_mem hlt)
      have HC : Hid (∀ wx, Below wo.heap.size wo wx → Calls Tryz.prog 49 #[.agg ⟨ys⟩] wx fun e w' => ∃ zs, e = .returned (.agg ⟨zs⟩) ∧ surfE.P wx.heap.size w' zs l[k] ∧ Below wx.heap.size wx w') := Lib.hid (fun wx hb => L_toSurface wx (surfE.keep hp (Up.of_below hb)) hbx)
      have i1 : (k : Int) < l.length := by omega
      have i2 : (0 : Int) ≤ k := by omega
      clear hcell hp hyl hld hbx
      generalize Value.agg ⟨ys⟩ = V at *
      go_wp2_with (first | (refine wpList_loadE rfl 100 (.tmp 19) rfl rfl HLD.out ?_) | (refine wpList_loadE rfl 100 (.tmp 18) rfl rfl HLD.out ?_) | fail)
      refine (HC.out _ (by repeat (first | (with_reducible exact Below.refl _ _) | (with_reducible assumption) | ((with_reducible refine Below.alloc ?_ ?_ _); rotate_left; (first | omega | (simp <;> omega))) | ((with_reducible refine Below.setCell ?_ ?_ _); rotate_left; (first | omega | (simp <;> omega))) | (with_reducible refine below_drewN ?_ _) | (with_reducible refine Below.drew ?_) | ((with_reducible refine Below.step (by assumption) ?_ ?_); rotate_left; (first | omega | (simp <;> omega)))))).mono ?_
      rintro e wA ⟨zs, rfl, hpz, hbA⟩
      have hzl := surfE.len hpz
      have hAo : Own wA w.heap.size 79 cs := Own.step hbA HOW.out
      have hle : k * 26 + 26 ≤ l.length * 26 := by omega
      obtain ⟨w2, hst, ho2, hbk, hs2, e1, e2, e3⟩ := store_big (P := Tryz.prog) (T := 79) (zs := zs) (k := k * 26) hAo (by rw [hzl]; kernel_rfl) (by rw [HF.out.1, hzl]; exact hle) (surfE.one hpz)
      rw [hzl] at ho2
      have hz4 := hbA.size
      have HST := Lib.hid hst
      have HO2 := Lib.hid ho2
      have hup : Up (w.heap.size + 1) wA w2 := ⟨by omega, fun b h _ => hbk b (by omega)⟩
      have HF2 : Hid (FillL surfE (w.heap.size + 1) w2 l (cs.take (k * 26) ++ zs ++ cs.drop (k * 26 + 26)) (k + 1)) := Lib.hid (((HF.out.keep (Up.of_below hbA)).keep hup).succ hlt (surfE.keep (surfE.mono hpz (by omega)) hup))
      have HB2 : Hid (Below w.heap.size w w2) := Lib.hid (Below.trans (Below.step hbA HB.out HB.out.size) ⟨e1, e2, e3, by omega, fun b h => hbk b (by omega)⟩)
      clear hpz hbA hAo hst ho2 hbk hs2 e1 e2 e3 hup hzl
      go_wp2_with (first | (refine wpList_storeE rfl 79 (.tmp 21) (.tmp 20) rfl rfl rfl HST.out ?_) | fail)
      go_roundw
      case rel => exact ⟨k + 1, _, by omega, by go_num, HF2.out, HO2.out, HB2.out⟩
      case measure => simp [RowKit.intOf] <;> omega
    · obtain rfl : k = l.length := by omega
      go_wp2_with fail
      go_ret
      refine ⟨_, rfl, ⟨some ⟨w.heap.size, 0, none⟩, l.length, cs, rfl, HOW.out.rs HF.out.1 hn, fun x hx => by simp [gOf] at hx; omega, fun i hi => surfE.mono (HF.out.2 i hi hi) (by omega)⟩, HB.out⟩
set_option maxHeartbeats 8000000 in
theorem L_eqSurfaceS {lo lo' : Nat} {A A2 : Option Addr} {c c2 : Nat} {l : List ESurf} (w : World) (h : RowL surfE lo w (.slice A l.length c) l) (h' : RowL surfE lo' w (.slice A2 l.length c2) l) :
    Calls Tryz.prog 28 #[.slice A l.length c, .slice A2 l.length c2] w fun e w' => e = .returned (.bool true) ∧ Below w.heap.size w w' := by
  obtain ⟨A0, c0, e0, hlc, hcm⟩ := h.slice
  injection e0 with e1 e2 e3
  subst e1; subst e3
  unfold maxLen at hcm
  have H0 := Lib.hid h
  have H1 := Lib.hid h'
  have hne : ((l.length : Int) != (l.length : Int)) = false := by simp
  clear h h' e2
  go_enter Tryz.func28, Tryz.ntmps28
  go_wp2_with fail
  go_loopw [5] (fun i wr => ∃ k : Nat, k ≤ l.length ∧ i = .int .i64 k ∧ Below w.heap.size w wr) (fun i _ => l.length - (RowKit.intOf i).toNat)
  case atStart => exact ⟨0, Nat.zero_le _, rfl, (by repeat (first | (with_reducible exact Below.refl _ _) | (with_reducible assumption) | ((with_reducible refine Below.alloc ?_ ?_ _); rotate_left; (first | omega | (simp <;> omega))) | ((with_reducible refine Below.setCell ?_ ?_ _); rotate_left; (first | omega | (simp <;> omega))) | (with_reducible refine below_drewN ?_ _) | (with_reducible refine Below.drew ?_) | ((with_reducible refine Below.step (by assumption) ?_ ?_); rotate_left; (first | omega | (simp <;> omega)))))⟩
  case round =>
    obtain ⟨k, hk, rfl, hb⟩ := hrel
    obtain ⟨wo, rfl⟩ : ∃ wo, wo = wr := ⟨_, rfl⟩
    have hz := hb.size
    have HB := Lib.hid hb
    clear hb
    by_cases hlt : k < l.length
    · obtain ⟨b, o, ys, rfl, hbh, hyl, hp, hcell⟩ := (H0.out.step HB.out).at_ hlt
      obtain ⟨b', o', ys', rfl, hbh', hyl', hp', hcell'⟩ := (H1.out.step HB.out).at_ hlt
      have HLD : Hid (∀ wx, (∀ o, wx.cell? ⟨b, o, none⟩ = wo.cell? ⟨b, o, none⟩) → (Instr.loadAt 79 (.pointer (some ⟨b, o + k * 26, none⟩))).run Tryz.prog wx = .ok (.agg ⟨ys⟩) wx) := Lib.hid (fun wx hx => loadAt_cells (P := Tryz.prog) Tryz.underlying79 rfl (by rw [hyl]; kernel_rfl) (fun j v hv => by rw [hx]; exact hcell j v hv))
      have HLD' : Hid (∀ wx, (∀ o, wx.cell? ⟨b', o, none⟩ = wo.cell? ⟨b', o, none⟩) → (Instr.loadAt 79 (.pointer (some ⟨b', o' + k * 26, none⟩))).run Tryz.prog wx = .ok (.agg ⟨ys'⟩) wx) := Lib.hid (fun wx hx => loadAt_cells (P := Tryz.prog) Tryz.underlying79 rfl (by rw [hyl']; kernel_rfl) (fun j v hv => by rw [hx]; exact hcell' j v hv))
      have HC : Hid (∀ wx, Below wo.heap.size wo wx → Calls Tryz.prog 65 #[.agg ⟨ys⟩, .agg ⟨ys'⟩] wx fun e w' => e = .returned (.bool true) ∧ Below wx.heap.size wx w') := Lib.hid (fun wx hb => L_eqSurface wx (surfE.keep hp (Up.of_below hb)) (surfE.keep hp' (Up.of_below hb)))
      have i1 : (k : Int) < l.length := by omega
      have i2 : (0 : Int) ≤ k := by omega
      clear hcell hp hyl hcell' hp' hyl'
      generalize Value.agg ⟨ys⟩ = V at *
      generalize Value.agg ⟨ys'⟩ = V' at *
      go_upto_region 6 with fail
      refine wp_region_held_drew (S := fun w' => (Instr.loadAt 79 (.pointer (some ⟨b, o + k * 26, none⟩))).run Tryz.prog w' = .ok V w' ∧ (Instr.loadAt 79 (.pointer (some ⟨b', o' + k * 26, none⟩))).run Tryz.prog w' = .ok V' w') (by kernel_rfl) ?_ (fun hHeld1 => ?_)
      · exact ⟨HLD.out _ (fun _ => rfl), HLD'.out _ (fun _ => rfl)⟩
      (refine wpAnyH_take (i := 0) (v := ?_) rfl (by kernel_rfl) (by kernel_rfl) (by kernel_rfl) (fun _ _ _ h => h) (Or.inl ⟨by rfl, ?_⟩) (by assumption) ?_; rotate_left; focus (intro w hSw; (try dsimp only at hSw); go_simp; try with_reducible rfl)); (try simp only [List.getElem_toArray, List.getElem_cons_succ, List.getElem_cons_zero, Act.put, List.setIfInBounds_toArray, List.set_cons_zero, List.set_cons_succ])
      (refine wpAnyH_take (i := 1) (v := ?_) rfl (by kernel_rfl) (by kernel_rfl) (by kernel_rfl) (fun _ _ _ h => h) (Or.inl ⟨by rfl, ?_⟩) (by assumption) ?_; rotate_left; focus (intro w hSw; (try dsimp only at hSw); go_simp; try with_reducible rfl)); (try simp only [List.getElem_toArray, List.getElem_cons_succ, List.getElem_cons_zero, Act.put, List.setIfInBounds_toArray, List.set_cons_zero, List.set_cons_succ])
      (refine wpAnyH_take (i := 2) (v := ?_) rfl (by kernel_rfl) (by kernel_rfl) (by kernel_rfl) (fun _ _ _ h => h) (Or.inl ⟨by rfl, ?_⟩) (by assumption) ?_; rotate_left; focus (intro w hSw; (try dsimp only at hSw); go_simp; try with_reducible rfl)); (try simp only [List.getElem_toArray, List.getElem_cons_succ, List.getElem_cons_zero, Act.put, List.setIfInBounds_toArray, List.set_cons_zero, List.set_cons_succ])
      (refine wpAnyH_take (i := 3) (v := V) rfl (by kernel_rfl) (by kernel_rfl) (by kernel_rfl) (fun _ _ _ h => h) (Or.inl ⟨by rfl, fun w hSw => run_loadE rfl rfl hSw.1⟩) (by assumption) ?_); (try simp only [List.getElem_toArray, List.getElem_cons_succ, List.getElem_cons_zero, Act.put, List.setIfInBounds_toArray, List.set_cons_zero, List.set_cons_succ])
      (refine wpAnyH_take (i := 4) (v := ?_) rfl (by kernel_rfl) (by kernel_rfl) (by kernel_rfl) (fun _ _ _ h => h) (Or.inl ⟨by rfl, ?_⟩) (by assumption) ?_; rotate_left; focus (intro w hSw; (try dsimp only at hSw); go_simp; try with_reducible rfl)); (try simp only [List.getElem_toArray, List.getElem_cons_succ, List.getElem_cons_zero, Act.put, List.setIfInBounds_toArray, List.set_cons_zero, List.set_cons_succ])
      (refine wpAnyH_take (i := 5) (v := ?_) rfl (by kernel_rfl) (by kernel_rfl) (by kernel_rfl) (fun _ _ _ h => h) (Or.inl ⟨by rfl, ?_⟩) (by assumption) ?_; rotate_left; focus (intro w hSw; (try dsimp only at hSw); go_simp; try with_reducible rfl)); (try simp only [List.getElem_toArray, List.getElem_cons_succ, List.getElem_cons_zero, Act.put, List.setIfInBounds_toArray, List.set_cons_zero, List.set_cons_succ])
      (refine wpAnyH_take (i := 6) (v := ?_) rfl (by kernel_rfl) (by kernel_rfl) (by kernel_rfl) (fun _ _ _ h => h) (Or.inl ⟨by rfl, ?_⟩) (by assumption) ?_; rotate_left; focus (intro w hSw; (try dsimp only at hSw); go_simp; try with_reducible rfl)); (try simp only [List.getElem_toArray, List.getElem_cons_succ, List.getElem_cons_zero, Act.put, List.setIfInBounds_toArray, List.set_cons_zero, List.set_cons_succ])
      (refine wpAnyH_take (i := 7) (v := V') rfl (by kernel_rfl) (by kernel_rfl) (by kernel_rfl) (fun _ _ _ h => h) (Or.inl ⟨by rfl, fun w hSw => run_loadE rfl rfl hSw.2⟩) (by assumption) ?_); (try simp only [List.getElem_toArray, List.getElem_cons_succ, List.getElem_cons_zero, Act.put, List.setIfInBounds_toArray, List.set_cons_zero, List.set_cons_succ])
      refine wpAnyH_ready (rs := [8]) (by kernel_rfl) (by simp) ?_
      refine AllReadyH.cons rfl (fun K hK => ?_) AllReadyH.nil
      go_simp
      (go_at_call 65; (refine (HC.out _ (by repeat (first | (with_reducible exact Below.refl _ _) | (with_reducible assumption) | ((with_reducible refine Below.alloc ?_ ?_ _); rotate_left; (first | omega | (simp <;> omega))) | ((with_reducible refine Below.setCell ?_ ?_ _); rotate_left; (first | omega | (simp <;> omega))) | (with_reducible refine below_drewN ?_ _) | (with_reducible refine Below.drew ?_) | ((with_reducible refine Below.step (by assumption) ?_ ?_); rotate_left; (first | omega | (simp <;> omega)))))).mono ?_); rintro e wA ⟨rfl, hbA⟩)
      (try go_wp2_with fail)
      refine hK.out _ _ ?_ (fun hHeld2 => ?_)
      · exact ⟨HLD.out _ (fun p => hbA.cell (p := ⟨b, p, none⟩) (by simpa using hbh)), HLD'.out _ (fun p => hbA.cell (p := ⟨b', p, none⟩) (by simpa using hbh'))⟩
      have HB2 : Hid (Below w.heap.size w wA) := Lib.hid (Below.step hbA (by repeat (first | (with_reducible exact Below.refl _ _) | (with_reducible exact HB.out) | (with_reducible assumption) | ((with_reducible refine Below.alloc ?_ ?_ _); rotate_left; (first | omega | (simp <;> omega))) | ((with_reducible refine Below.setCell ?_ ?_ _); rotate_left; (first | omega | (simp <;> omega))) | (with_reducible refine below_drewN ?_ _) | (with_reducible refine Below.drew ?_) | ((with_reducible refine Below.step (by assumption) ?_ ?_); rotate_left; (first | omega | (simp <;> omega))))) (by first | omega | (simp <;> omega)))
      clear hK K hHeld1 hbA
      (try simp only [List.getElem_toArray, List.getElem_cons_succ, List.getElem_cons_zero, Act.put, List.setIfInBounds_toArray, List.set_cons_zero, List.set_cons_succ])
      (refine wpAnyH_take (i := 9) (v := ?_) rfl (by kernel_rfl) (by kernel_rfl) (by kernel_rfl) (fun _ _ _ h => h) (Or.inl ⟨by rfl, ?_⟩) (by assumption) ?_; rotate_left; focus (intro w hSw; (try dsimp only at hSw); go_simp; try with_reducible rfl)); (try simp only [List.getElem_toArray, List.getElem_cons_succ, List.getElem_cons_zero, Act.put, List.setIfInBounds_toArray, List.set_cons_zero, List.set_cons_succ])
      refine wpAnyH_done (by kernel_rfl) ?_ _
      all_goals
        go_wp2_with fail
        go_roundw
        case rel => exact ⟨k + 1, by omega, by go_num, (by repeat (first | (with_reducible exact Below.refl _ _) | (with_reducible exact HB2.out) | (with_reducible assumption) | ((with_reducible refine Below.alloc ?_ ?_ _); rotate_left; (first | omega | (simp <;> omega))) | ((with_reducible refine Below.setCell ?_ ?_ _); rotate_left; (first | omega | (simp <;> omega))) | (with_reducible refine below_drewN ?_ _) | (with_reducible refine Below.drew ?_) | ((with_reducible refine Below.step (by assumption) ?_ ?_); rotate_left; (first | omega | (simp <;> omega)))))⟩
        case measure => simp [RowKit.intOf] <;> omega
    · obtain rfl : k = l.length := by omega
      go_wp2_with fail
      go_ret
      exact ⟨rfl, HB.out⟩
end Go.Proofs.YtjipfgadamokaaaGreatDoor
