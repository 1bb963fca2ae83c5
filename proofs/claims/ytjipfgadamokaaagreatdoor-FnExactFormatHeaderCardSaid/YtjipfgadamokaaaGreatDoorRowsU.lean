/- MADE BY PROGRAM (genrowl.py). Surfaces: the laws' own helpers on rows. -/
import Derived.Test.YtjipfgadamokaaaGreatDoorRowsG
import Derived.Test.YtjipfgadamokaaaGreatDoorSurfW
set_option linter.unusedVariables false
set_option linter.unusedSimpArgs false
namespace Go.Proofs.YtjipfgadamokaaaGreatDoor
open Go.RowKit Go.Lib
set_option maxRecDepth 100000
def c12 (p : EPatch) : List Value := (List.range 12).map fun j => .int .i64 (p j)
theorem c12_at {p : EPatch} {j : Nat} (h : j < 12) : (c12 p)[j]? = some (.int .i64 (p j)) := by simp [c12, h]
theorem c12_len (p : EPatch) : (c12 p).length = 12 := by simp [c12]
theorem c12_arr (p : EPatch) : vPatch p = .agg ⟨c12 p⟩ := rfl
def z12 : List Value := List.replicate 12 (.int .i64 0)
def z26 : List Value := List.replicate 26 (.int .i64 0)
set_option maxHeartbeats 8000000 in
theorem L_toVecA4 (p : EPatch) (w : World) : Calls Tryz.prog 110 #[.agg ⟨c12 p⟩] w fun e w' => e = .returned (.agg ⟨c12 p⟩) ∧ Below w.heap.size w w' := by
  have hal : ∀ wx : World, (Instr.alloc 75 true (.tuple #[])).run Tryz.prog wx = .ok (.pointer (some ⟨wx.heap.size, 0, none⟩)) (wx.alloc (.cells ⟨z12⟩ 75)) := fun wx => by kernel_rfl
  have HA0 : Hid (Own (((w.alloc (.cells ⟨c12 p⟩ 96)).alloc (.cells ⟨z12⟩ 75)).alloc (.cells ⟨z12⟩ 75)) w.heap.size 96 (c12 p)) := Lib.hid (Own.alloc (Own.alloc (Own.new w _ _) _) _)
  have HA1 : Hid (Own (((w.alloc (.cells ⟨c12 p⟩ 96)).alloc (.cells ⟨z12⟩ 75)).alloc (.cells ⟨z12⟩ 75)) (w.heap.size + 1) 75 z12) := Lib.hid (Own.alloc (Own.at_new (cs := ⟨z12⟩) (by simp)) _)
  have HA2 : Hid (Own (((w.alloc (.cells ⟨c12 p⟩ 96)).alloc (.cells ⟨z12⟩ 75)).alloc (.cells ⟨z12⟩ 75)) (w.heap.size + 1 + 1) 75 z12) := Lib.hid (Own.at_new (cs := ⟨z12⟩) (by simp))
  go_enter Tryz.func110, Tryz.ntmps110
  go_wp2_with (first | (refine wpList_allocE rfl 75 rfl (hal _) ?_) | fail)
  clear hal
  go_loopw [4] (fun i wr => ∃ (k : Nat) (cs : List Value), k ≤ 4 ∧ i = .int .i64 k ∧ cs.length = 12 ∧ (∀ j, j < k * 3 → cs[j]? = some (.int .i64 (p j))) ∧ Own wr (w.heap.size + 1 + 1) 75 cs ∧ Own wr w.heap.size 96 (c12 p) ∧ Own wr (w.heap.size + 1) 75 z12 ∧ Below w.heap.size w wr) (fun i _ => 4 - (RowKit.intOf i).toNat)
  case atStart => exact ⟨0, _, Nat.zero_le _, rfl, rfl, fun j h => absurd h (by omega), HA2.out, HA0.out, HA1.out, (by repeat (first | (with_reducible exact Below.refl _ _) | (with_reducible assumption) | ((with_reducible refine Below.alloc ?_ ?_ _); rotate_left; (first | omega | (simp <;> omega))) | ((with_reducible refine Below.setCell ?_ ?_ _); rotate_left; (first | omega | (simp <;> omega))) | (with_reducible refine below_drewN ?_ _) | (with_reducible refine Below.drew ?_) | ((with_reducible refine Below.step (by assumption) ?_ ?_); rotate_left; (first | omega | (simp <;> omega)))))⟩
  case round =>
    obtain ⟨k, cs, hk, rfl, hcl, hcs, ho2, ho0, ho1, hb⟩ := hrel
    obtain ⟨wo, rfl⟩ : ∃ wo, wo = wr := ⟨_, rfl⟩
    have hz := hb.size
    have hl2 := ho2.lt
    have HCS := Lib.hid hcs
    have HO2 := Lib.hid ho2
    have HO0 := Lib.hid ho0
    have HO1 := Lib.hid ho1
    have HB := Lib.hid hb
    clear hcs ho2 ho0 ho1 hb HA0 HA1 HA2
    by_cases hlt : k < 4
    · have hld := loadAt_cells (P := Tryz.prog) (T := 95) (w := wo) (b := w.heap.size) (o := k * 3) (cs := [.int .i64 (p (k * 3)), .int .i64 (p (k * 3 + 1)), .int .i64 (p (k * 3 + 2))]) Tryz.underlying95 rfl (by kernel_rfl) (fun j v hv => by
        rw [HO0.out.cell]
        match j, hv with
        | 0, hv => injection hv with hv; rw [← hv]; exact c12_at (by omega)
        | 1, hv => injection hv with hv; rw [← hv]; exact c12_at (by omega)
        | 2, hv => injection hv with hv; rw [← hv]; exact c12_at (by omega)
        | j + 3, hv => simp at hv)
      have HLD := Lib.hid hld
      have HC := Lib.hid (L_toVec (p (k * 3)) (p (k * 3 + 1)) (p (k * 3 + 2)))
      have i1 : (k : Int) < 4 := by omega
      have i2 : (0 : Int) ≤ k := by omega
      clear hld
      go_wp2_with (first | (refine wpList_loadE rfl 95 (.tmp 12) rfl rfl HLD.out ?_) | (refine wpList_loadE rfl 95 (.tmp 11) rfl rfl HLD.out ?_) | fail)
      refine (HC.out _).mono ?_
      rintro e wA ⟨rfl, hbA⟩
      have hAo : Own wA (w.heap.size + 1 + 1) 75 cs := Own.step hbA HO2.out
      obtain ⟨w2, hst, hs, hbk, hs2, e1, e2, e3⟩ := store_big (P := Tryz.prog) (T := 74) (zs := [.int .i64 (p (k * 3)), .int .i64 (p (k * 3 + 1)), .int .i64 (p (k * 3 + 2))]) (k := k * 3) hAo (by kernel_rfl) (by rw [hcl]; simp only [List.length_cons, List.length_nil]; omega) (by rfl)
      have hzA := hbA.size
      have HST := Lib.hid hst
      have HO2' := Lib.hid hs
      have HO0' : Hid (Own w2 w.heap.size 96 (c12 p)) := Lib.hid ((hbk _ (by omega)).trans (Own.step hbA HO0.out))
      have HO1' : Hid (Own w2 (w.heap.size + 1) 75 z12) := Lib.hid ((hbk _ (by omega)).trans (Own.step hbA HO1.out))
      have HB2 : Hid (Below w.heap.size w w2) := Lib.hid (Below.trans (Below.step hbA HB.out HB.out.size) ⟨e1, e2, e3, by omega, fun b h => hbk b (by omega)⟩)
      have HN : Hid (∀ j, j < (k + 1) * 3 → (cs.take (k * 3) ++ [.int .i64 (p (k * 3)), .int .i64 (p (k * 3 + 1)), .int .i64 (p (k * 3 + 2))] ++ cs.drop (k * 3 + 3))[j]? = some (.int .i64 (p j))) := Lib.hid (fun j hj => by
        have htl : (cs.take (k * 3)).length = k * 3 := by rw [List.length_take]; omega
        rw [List.append_assoc]
        by_cases h : j < k * 3
        · rw [List.getElem?_append_left (by omega), List.getElem?_take_of_lt h]; exact HCS.out j h
        · rw [List.getElem?_append_right (by omega), htl]
          rcases (show j = k * 3 ∨ j = k * 3 + 1 ∨ j = k * 3 + 2 by omega) with rfl | rfl | rfl
          · rw [Nat.sub_self]; rfl
          · rw [show k * 3 + 1 - k * 3 = 1 by omega]; rfl
          · rw [show k * 3 + 2 - k * 3 = 2 by omega]; rfl)
      clear hAo hst hs hbk hs2 e1 e2 e3 hbA
      go_wp2_with (first | (refine wpList_storeE rfl 74 (.tmp 14) (.tmp 13) rfl rfl rfl HST.out ?_) | fail)
      go_roundw
      case rel => exact ⟨k + 1, _, by omega, by go_num, by simp only [List.length_append, List.length_take, List.length_drop, List.length_cons, List.length_nil]; omega, HN.out, HO2'.out, HO0'.out, HO1'.out, HB2.out⟩
      case measure => simp [RowKit.intOf] <;> omega
    · obtain rfl : k = 4 := by omega
      obtain rfl : cs = c12 p := by
        apply List.ext_getElem?
        intro j
        by_cases h : j < 12
        · rw [c12_at h]; exact HCS.out j h
        · rw [List.getElem?_eq_none (by omega), List.getElem?_eq_none (by rw [c12_len]; omega)]
      have HLD : Hid ((Instr.loadAt 75 (.pointer (some ⟨w.heap.size + 1 + 1, 0, none⟩))).run Tryz.prog wo = .ok (.agg ⟨c12 p⟩) wo) := Lib.hid (loadAt_cells (P := Tryz.prog) Tryz.underlying75 rfl (by rw [c12_len]; kernel_rfl) (fun j v hv => by rw [Nat.zero_add, HO2.out.cell]; exact hv))
      obtain ⟨w2, hst, hs, hbk, hs2, e1, e2, e3⟩ := store_big (P := Tryz.prog) (T := 75) (zs := c12 p) (k := 0) HO1.out (by rw [c12_len]; kernel_rfl) (by rw [c12_len]; decide) (by rfl)
      have HST := Lib.hid hst
      have HR : Hid (w2.heap[w.heap.size + 1]? = some (.cells ⟨c12 p⟩ 75 (0, 0))) := Lib.hid (by have := hs; unfold Own at this; rw [this]; rw [c12_len]; simp [z12])
      have HB2 : Hid (Below w.heap.size w w2) := Lib.hid (Below.trans HB.out ⟨e1, e2, e3, by omega, fun b h => hbk b (by omega)⟩)
      clear hst hs hbk hs2 e1 e2 e3
      go_wp2_with (first | (refine wpList_loadE rfl 75 (.tmp 3) rfl rfl HLD.out ?_) | (refine wpList_storeE rfl 75 (.tmp 2) (.tmp 15) rfl rfl rfl HST.out ?_) | fail)
      exact bodyPost_ret (v := .agg ⟨c12 p⟩) (results_cell_row Tryz.results110 _ _ (w.heap.size + 1) _ _ (0, 0) _ rfl HR.out Tryz.underlying75 rfl (by kernel_rfl)) rfl ⟨rfl, HB2.out⟩
set_option maxHeartbeats 8000000 in
theorem L_toPatch (p : EPatch) (w : World) : Calls Tryz.prog 82 #[.agg ⟨c12 p⟩] w fun e w' => e = .returned (.agg ⟨c12 p⟩) ∧ Below w.heap.size w w' := by
  have hal : ∀ wx : World, (Instr.alloc 77 true (.tuple #[])).run Tryz.prog wx = .ok (.pointer (some ⟨wx.heap.size, 0, none⟩)) (wx.alloc (.cells ⟨z12⟩ 77)) := fun wx => by kernel_rfl
  have HA0 : Hid (Own (((w.alloc (.cells ⟨c12 p⟩ 98)).alloc (.cells ⟨z12⟩ 77)).alloc (.cells ⟨z12⟩ 77)) w.heap.size 98 (c12 p)) := Lib.hid (Own.alloc (Own.alloc (Own.new w _ _) _) _)
  have HA1 : Hid (Own (((w.alloc (.cells ⟨c12 p⟩ 98)).alloc (.cells ⟨z12⟩ 77)).alloc (.cells ⟨z12⟩ 77)) (w.heap.size + 1) 77 z12) := Lib.hid (Own.alloc (Own.at_new (cs := ⟨z12⟩) (by simp)) _)
  have HA2 : Hid (Own (((w.alloc (.cells ⟨c12 p⟩ 98)).alloc (.cells ⟨z12⟩ 77)).alloc (.cells ⟨z12⟩ 77)) (w.heap.size + 1 + 1) 77 z12) := Lib.hid (Own.at_new (cs := ⟨z12⟩) (by simp))
  have HLD : Hid ((Instr.loadAt 96 (.pointer (some ⟨w.heap.size, 0, none⟩))).run Tryz.prog (((w.alloc (.cells ⟨c12 p⟩ 98)).alloc (.cells ⟨z12⟩ 77)).alloc (.cells ⟨z12⟩ 77)) = .ok (.agg ⟨c12 p⟩) _) := Lib.hid (loadAt_cells (P := Tryz.prog) Tryz.underlying96 rfl (by rw [c12_len]; kernel_rfl) (fun j v hv => by rw [Nat.zero_add, HA0.out.cell]; exact hv))
  go_enter Tryz.func82, Tryz.ntmps82
  go_wp2_with (first | (refine wpList_allocE rfl 77 rfl (hal _) ?_) | (refine wpList_loadE rfl 96 (.tmp 4) rfl rfl HLD.out ?_) | fail)
  clear hal
  refine (L_toVecA4 p _).mono ?_
  rintro e wA ⟨rfl, hbA⟩
  have hzA := hbA.size
  (try simp at hzA)
  obtain ⟨w2, hst, hs, hbk, hs2, e1, e2, e3⟩ := store_big (P := Tryz.prog) (T := 75) (zs := c12 p) (k := 0) (Own.step hbA HA2.out) (by rw [c12_len]; kernel_rfl) (by rw [c12_len]; decide) (by rfl)
  have HST := Lib.hid hst
  have ho2 : Own w2 (w.heap.size + 1 + 1) 77 (c12 p) := by have := hs; rw [c12_len] at this; exact this
  have ho1 : Own w2 (w.heap.size + 1) 77 z12 := (hbk _ (by omega)).trans (Own.step hbA HA1.out)
  have HB2 : Hid (Below w.heap.size w w2) := Lib.hid (Below.trans (Below.step hbA (by repeat (first | (with_reducible exact Below.refl _ _) | (with_reducible assumption) | ((with_reducible refine Below.alloc ?_ ?_ _); rotate_left; (first | omega | (simp <;> omega))) | ((with_reducible refine Below.setCell ?_ ?_ _); rotate_left; (first | omega | (simp <;> omega))) | (with_reducible refine below_drewN ?_ _) | (with_reducible refine Below.drew ?_) | ((with_reducible refine Below.step (by assumption) ?_ ?_); rotate_left; (first | omega | (simp <;> omega))))) (by first | omega | (simp <;> omega))) ⟨e1, e2, e3, by omega, fun b h => hbk b (by omega)⟩)
  have HLD2 : Hid ((Instr.loadAt 77 (.pointer (some ⟨w.heap.size + 1 + 1, 0, none⟩))).run Tryz.prog w2 = .ok (.agg ⟨c12 p⟩) w2) := Lib.hid (loadAt_cells (P := Tryz.prog) Tryz.underlying77 rfl (by rw [c12_len]; kernel_rfl) (fun j v hv => by rw [Nat.zero_add, ho2.cell]; exact hv))
  obtain ⟨w3, hst3, hs3, hbk3, hs4, f1, f2, f3⟩ := store_big (P := Tryz.prog) (T := 77) (zs := c12 p) (k := 0) ho1 (by rw [c12_len]; kernel_rfl) (by rw [c12_len]; decide) (by rfl)
  have HST3 := Lib.hid hst3
  have HR : Hid (w3.heap[w.heap.size + 1]? = some (.cells ⟨c12 p⟩ 77 (0, 0))) := Lib.hid (by have := hs3; unfold Own at this; rw [this]; rw [c12_len]; simp [z12])
  have HB3 : Hid (Below w.heap.size w w3) := Lib.hid (Below.trans HB2.out ⟨f1, f2, f3, by omega, fun b h => hbk3 b (by omega)⟩)
  clear hbA hst hs hbk hs2 e1 e2 e3 ho2 ho1 hst3 hs3 hbk3 hs4 f1 f2 f3 HLD HA0 HA1 HA2
  go_wp2_with (first | (refine wpList_storeE rfl 75 (.tmp 7) (.tmp 6) rfl rfl rfl HST.out ?_) | (refine wpList_loadE rfl 77 (.tmp 3) rfl rfl HLD2.out ?_) | (refine wpList_storeE rfl 77 (.tmp 2) (.tmp 8) rfl rfl rfl HST3.out ?_) | fail)
  exact bodyPost_ret (v := .agg ⟨c12 p⟩) (results_cell_row Tryz.results82 _ _ (w.heap.size + 1) _ _ (0, 0) _ rfl HR.out Tryz.underlying77 rfl (by kernel_rfl)) rfl ⟨rfl, HB3.out⟩
set_option maxHeartbeats 8000000 in
theorem L_eqVecA4 (p : EPatch) (w : World) : Calls Tryz.prog 132 #[.agg ⟨c12 p⟩, .agg ⟨c12 p⟩] w fun e w' => e = .returned (.bool true) ∧ Below w.heap.size w w' := by
  have HA0 : Hid (Own ((w.alloc (.cells ⟨c12 p⟩ 75)).alloc (.cells ⟨c12 p⟩ 75)) w.heap.size 75 (c12 p)) := Lib.hid (Own.alloc (Own.new w _ _) _)
  have HA1 : Hid (Own ((w.alloc (.cells ⟨c12 p⟩ 75)).alloc (.cells ⟨c12 p⟩ 75)) (w.heap.size + 1) 75 (c12 p)) := Lib.hid (Own.at_new (cs := ⟨c12 p⟩) (by simp))
  go_enter Tryz.func132, Tryz.ntmps132
  go_wp2_with fail
  go_loopw [5] (fun i wr => ∃ k : Nat, k ≤ 4 ∧ i = .int .i64 k ∧ Own wr w.heap.size 75 (c12 p) ∧ Own wr (w.heap.size + 1) 75 (c12 p) ∧ Below w.heap.size w wr) (fun i _ => 4 - (RowKit.intOf i).toNat)
  case atStart => exact ⟨0, Nat.zero_le _, rfl, HA0.out, HA1.out, (by repeat (first | (with_reducible exact Below.refl _ _) | (with_reducible assumption) | ((with_reducible refine Below.alloc ?_ ?_ _); rotate_left; (first | omega | (simp <;> omega))) | ((with_reducible refine Below.setCell ?_ ?_ _); rotate_left; (first | omega | (simp <;> omega))) | (with_reducible refine below_drewN ?_ _) | (with_reducible refine Below.drew ?_) | ((with_reducible refine Below.step (by assumption) ?_ ?_); rotate_left; (first | omega | (simp <;> omega)))))⟩
  case round =>
    obtain ⟨k, hk, rfl, ho0, ho1, hb⟩ := hrel
    obtain ⟨wo, rfl⟩ : ∃ wo, wo = wr := ⟨_, rfl⟩
    have hz := hb.size
    have hl1 := ho1.lt
    have HO0 := Lib.hid ho0
    have HO1 := Lib.hid ho1
    have HB := Lib.hid hb
    clear ho0 ho1 hb HA0 HA1
    by_cases hlt : k < 4
    · have HLD : Hid (∀ b, (b = w.heap.size ∨ b = w.heap.size + 1) → ∀ wx, (∀ o, wx.cell? ⟨b, o, none⟩ = wo.cell? ⟨b, o, none⟩) → (Instr.loadAt 74 (.pointer (some ⟨b, k * 3, none⟩))).run Tryz.prog wx = .ok (.agg #[.int .i64 (p (k * 3)), .int .i64 (p (k * 3 + 1)), .int .i64 (p (k * 3 + 2))]) wx) := Lib.hid (fun b hb wx hx => loadAt_cells (P := Tryz.prog) (cs := [.int .i64 (p (k * 3)), .int .i64 (p (k * 3 + 1)), .int .i64 (p (k * 3 + 2))]) Tryz.underlying74 rfl (by kernel_rfl) (fun j v hv => by
        have hc : ∀ i, i < 12 → wx.cell? ⟨b, i, none⟩ = some (.int .i64 (p i)) := fun i hi => by
          rw [hx]
          rcases hb with rfl | rfl
          · rw [HO0.out.cell]; exact c12_at hi
          · rw [HO1.out.cell]; exact c12_at hi
        match j, hv with
        | 0, hv => injection hv with hv; rw [← hv]; exact hc _ (by omega)
        | 1, hv => injection hv with hv; rw [← hv]; exact hc _ (by omega)
        | 2, hv => injection hv with hv; rw [← hv]; exact hc _ (by omega)
        | j + 3, hv => simp at hv))
      have HC := Lib.hid (L_eqVec (p (k * 3)) (p (k * 3 + 1)) (p (k * 3 + 2)))
      have i1 : (k : Int) < 4 := by omega
      have i2 : (0 : Int) ≤ k := by omega
      generalize hV : Value.agg #[.int .i64 (p (k * 3)), .int .i64 (p (k * 3 + 1)), .int .i64 (p (k * 3 + 2))] = V at *
      clear hV
      go_upto_region 4 with fail
      refine wp_region_held_drew (S := fun w' => (Instr.loadAt 74 (.pointer (some ⟨w.heap.size, k * 3, none⟩))).run Tryz.prog w' = .ok V w' ∧ (Instr.loadAt 74 (.pointer (some ⟨w.heap.size + 1, k * 3, none⟩))).run Tryz.prog w' = .ok V w') (by kernel_rfl) ?_ (fun hHeld1 => ?_)
      · exact ⟨HLD.out _ (.inl rfl) _ (fun _ => rfl), HLD.out _ (.inr rfl) _ (fun _ => rfl)⟩
      (refine wpAnyH_take (i := 0) (v := ?_) rfl (by kernel_rfl) (by kernel_rfl) (by kernel_rfl) (fun _ _ _ h => h) (Or.inl ⟨by rfl, ?_⟩) (by assumption) ?_; rotate_left; focus (intro w hSw; (try dsimp only at hSw); go_simp; try with_reducible rfl)); (try simp only [List.getElem_toArray, List.getElem_cons_succ, List.getElem_cons_zero, Act.put, List.setIfInBounds_toArray, List.set_cons_zero, List.set_cons_succ])
      (refine wpAnyH_take (i := 1) (v := ?_) rfl (by kernel_rfl) (by kernel_rfl) (by kernel_rfl) (fun _ _ _ h => h) (Or.inl ⟨by rfl, ?_⟩) (by assumption) ?_; rotate_left; focus (intro w hSw; (try dsimp only at hSw); go_simp; try with_reducible rfl)); (try simp only [List.getElem_toArray, List.getElem_cons_succ, List.getElem_cons_zero, Act.put, List.setIfInBounds_toArray, List.set_cons_zero, List.set_cons_succ])
      (refine wpAnyH_take (i := 2) (v := V) rfl (by kernel_rfl) (by kernel_rfl) (by kernel_rfl) (fun _ _ _ h => h) (Or.inl ⟨by rfl, fun w hSw => run_loadE rfl rfl hSw.1⟩) (by assumption) ?_); (try simp only [List.getElem_toArray, List.getElem_cons_succ, List.getElem_cons_zero, Act.put, List.setIfInBounds_toArray, List.set_cons_zero, List.set_cons_succ])
      (refine wpAnyH_take (i := 3) (v := ?_) rfl (by kernel_rfl) (by kernel_rfl) (by kernel_rfl) (fun _ _ _ h => h) (Or.inl ⟨by rfl, ?_⟩) (by assumption) ?_; rotate_left; focus (intro w hSw; (try dsimp only at hSw); go_simp; try with_reducible rfl)); (try simp only [List.getElem_toArray, List.getElem_cons_succ, List.getElem_cons_zero, Act.put, List.setIfInBounds_toArray, List.set_cons_zero, List.set_cons_succ])
      (refine wpAnyH_take (i := 4) (v := ?_) rfl (by kernel_rfl) (by kernel_rfl) (by kernel_rfl) (fun _ _ _ h => h) (Or.inl ⟨by rfl, ?_⟩) (by assumption) ?_; rotate_left; focus (intro w hSw; (try dsimp only at hSw); go_simp; try with_reducible rfl)); (try simp only [List.getElem_toArray, List.getElem_cons_succ, List.getElem_cons_zero, Act.put, List.setIfInBounds_toArray, List.set_cons_zero, List.set_cons_succ])
      (refine wpAnyH_take (i := 5) (v := V) rfl (by kernel_rfl) (by kernel_rfl) (by kernel_rfl) (fun _ _ _ h => h) (Or.inl ⟨by rfl, fun w hSw => run_loadE rfl rfl hSw.2⟩) (by assumption) ?_); (try simp only [List.getElem_toArray, List.getElem_cons_succ, List.getElem_cons_zero, Act.put, List.setIfInBounds_toArray, List.set_cons_zero, List.set_cons_succ])
      refine wpAnyH_ready (rs := [6]) (by kernel_rfl) (by simp) ?_
      refine AllReadyH.cons rfl (fun K hK => ?_) AllReadyH.nil
      go_simp
      (go_at_call 149; (refine (HC.out _).mono ?_); rintro e wA ⟨rfl, hbA⟩)
      (try go_wp2_with fail)
      refine hK.out _ _ ?_ (fun hHeld2 => ?_)
      · exact ⟨HLD.out _ (.inl rfl) _ (fun q => hbA.cell (p := ⟨w.heap.size, q, none⟩) (by first | omega | (simp <;> omega))), HLD.out _ (.inr rfl) _ (fun q => hbA.cell (p := ⟨w.heap.size + 1, q, none⟩) (by first | omega | (simp <;> omega)))⟩
      have HB2 : Hid (Below w.heap.size w wA) := Lib.hid (Below.step hbA (by repeat (first | (with_reducible exact Below.refl _ _) | (with_reducible exact HB.out) | (with_reducible assumption) | ((with_reducible refine Below.alloc ?_ ?_ _); rotate_left; (first | omega | (simp <;> omega))) | ((with_reducible refine Below.setCell ?_ ?_ _); rotate_left; (first | omega | (simp <;> omega))) | (with_reducible refine below_drewN ?_ _) | (with_reducible refine Below.drew ?_) | ((with_reducible refine Below.step (by assumption) ?_ ?_); rotate_left; (first | omega | (simp <;> omega))))) (by first | omega | (simp <;> omega)))
      have HO0' : Hid (Own wA w.heap.size 75 (c12 p)) := Lib.hid (Own.step hbA (by repeat (first | (with_reducible exact HO0.out) | ((with_reducible refine Own.far ?_ ?_ _); rotate_left; (first | omega | (simp <;> omega))) | (with_reducible refine Own.alloc ?_ _) | (with_reducible refine Own.drewN ?_ _) | (with_reducible refine Own.drew ?_) | (with_reducible refine Own.step (by assumption) ?_))))
      have HO1' : Hid (Own wA (w.heap.size + 1) 75 (c12 p)) := Lib.hid (Own.step hbA (by repeat (first | (with_reducible exact HO1.out) | ((with_reducible refine Own.far ?_ ?_ _); rotate_left; (first | omega | (simp <;> omega))) | (with_reducible refine Own.alloc ?_ _) | (with_reducible refine Own.drewN ?_ _) | (with_reducible refine Own.drew ?_) | (with_reducible refine Own.step (by assumption) ?_))))
      clear hK K hHeld1 hbA
      (try simp only [List.getElem_toArray, List.getElem_cons_succ, List.getElem_cons_zero, Act.put, List.setIfInBounds_toArray, List.set_cons_zero, List.set_cons_succ])
      (refine wpAnyH_take (i := 7) (v := ?_) rfl (by kernel_rfl) (by kernel_rfl) (by kernel_rfl) (fun _ _ _ h => h) (Or.inl ⟨by rfl, ?_⟩) (by assumption) ?_; rotate_left; focus (intro w hSw; (try dsimp only at hSw); go_simp; try with_reducible rfl)); (try simp only [List.getElem_toArray, List.getElem_cons_succ, List.getElem_cons_zero, Act.put, List.setIfInBounds_toArray, List.set_cons_zero, List.set_cons_succ])
      refine wpAnyH_done (by kernel_rfl) ?_ _
      all_goals
        go_wp2_with fail
        go_roundw
        case rel => exact ⟨k + 1, by omega, by go_num, (by repeat (first | (with_reducible exact HO0'.out) | ((with_reducible refine Own.far ?_ ?_ _); rotate_left; (first | omega | (simp <;> omega))) | (with_reducible refine Own.alloc ?_ _) | (with_reducible refine Own.drewN ?_ _) | (with_reducible refine Own.drew ?_) | (with_reducible refine Own.step (by assumption) ?_))), (by repeat (first | (with_reducible exact HO1'.out) | ((with_reducible refine Own.far ?_ ?_ _); rotate_left; (first | omega | (simp <;> omega))) | (with_reducible refine Own.alloc ?_ _) | (with_reducible refine Own.drewN ?_ _) | (with_reducible refine Own.drew ?_) | (with_reducible refine Own.step (by assumption) ?_))), (by repeat (first | (with_reducible exact Below.refl _ _) | (with_reducible exact HB2.out) | (with_reducible assumption) | ((with_reducible refine Below.alloc ?_ ?_ _); rotate_left; (first | omega | (simp <;> omega))) | ((with_reducible refine Below.setCell ?_ ?_ _); rotate_left; (first | omega | (simp <;> omega))) | (with_reducible refine below_drewN ?_ _) | (with_reducible refine Below.drew ?_) | ((with_reducible refine Below.step (by assumption) ?_ ?_); rotate_left; (first | omega | (simp <;> omega)))))⟩
        case measure => simp [RowKit.intOf] <;> omega
    · obtain rfl : k = 4 := by omega
      go_wp2_with fail
      go_ret
      exact ⟨rfl, HB.out⟩
set_option maxHeartbeats 8000000 in
theorem L_eqPatch (p : EPatch) (w : World) : Calls Tryz.prog 98 #[.agg ⟨c12 p⟩, .agg ⟨c12 p⟩] w fun e w' => e = .returned (.bool true) ∧ Below w.heap.size w w' := by
  have HA0 : Hid (Own ((w.alloc (.cells ⟨c12 p⟩ 77)).alloc (.cells ⟨c12 p⟩ 77)) w.heap.size 77 (c12 p)) := Lib.hid (Own.alloc (Own.new w _ _) _)
  have HA1 : Hid (Own ((w.alloc (.cells ⟨c12 p⟩ 77)).alloc (.cells ⟨c12 p⟩ 77)) (w.heap.size + 1) 77 (c12 p)) := Lib.hid (Own.at_new (cs := ⟨c12 p⟩) (by simp))
  have HL0 : Hid ((Instr.loadAt 75 (.pointer (some ⟨w.heap.size, 0, none⟩))).run Tryz.prog ((w.alloc (.cells ⟨c12 p⟩ 77)).alloc (.cells ⟨c12 p⟩ 77)) = .ok (.agg ⟨c12 p⟩) _) := Lib.hid (loadAt_cells (P := Tryz.prog) Tryz.underlying75 rfl (by rw [c12_len]; kernel_rfl) (fun j v hv => by rw [Nat.zero_add, HA0.out.cell]; exact hv))
  have HL1 : Hid ((Instr.loadAt 75 (.pointer (some ⟨w.heap.size + 1, 0, none⟩))).run Tryz.prog ((w.alloc (.cells ⟨c12 p⟩ 77)).alloc (.cells ⟨c12 p⟩ 77)) = .ok (.agg ⟨c12 p⟩) _) := Lib.hid (loadAt_cells (P := Tryz.prog) Tryz.underlying75 rfl (by rw [c12_len]; kernel_rfl) (fun j v hv => by rw [Nat.zero_add, HA1.out.cell]; exact hv))
  go_enter Tryz.func98, Tryz.ntmps98
  go_wp2_with (first | (refine wpList_loadE rfl 75 (.tmp 5) rfl rfl HL0.out ?_) | (refine wpList_loadE rfl 75 (.tmp 7) rfl rfl HL1.out ?_) | fail)
  refine (L_eqVecA4 p _).mono ?_
  rintro e wA ⟨rfl, hbA⟩
  go_wp2_with fail
  go_ret
  exact ⟨rfl, (by repeat (first | (with_reducible exact Below.refl _ _) | (with_reducible assumption) | ((with_reducible refine Below.alloc ?_ ?_ _); rotate_left; (first | omega | (simp <;> omega))) | ((with_reducible refine Below.setCell ?_ ?_ _); rotate_left; (first | omega | (simp <;> omega))) | (with_reducible refine below_drewN ?_ _) | (with_reducible refine Below.drew ?_) | ((with_reducible refine Below.step (by assumption) ?_ ?_); rotate_left; (first | omega | (simp <;> omega)))))⟩
end Go.Proofs.YtjipfgadamokaaaGreatDoor
