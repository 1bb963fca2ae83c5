/- FnCompare: comparing an image with its flipped one. -/
import Derived.Test.YthfnldjldfkmnaaDrawImg
import Derived.Test.YthfnldjldfkmnaaFlipI
import Derived.Test.YthfnldjldfkmnaaCompare
namespace Go.Proofs.Ythfnldjldfkmnaa
open Go.RowKit
set_option linter.unusedVariables false
set_option maxRecDepth 20000
theorem absF_swap (x y : Int) : absF (x - y) = absF (y - x) := by unfold absF; split <;> split <;> omega
theorem absF_pos (x y : Int) : 0 < absF (x - y) ↔ ¬ x = y := by unfold absF; split <;> omega
theorem cmpF_swap {l m : List Int} (h : l.length = m.length) : ∀ k, k ≤ l.length → cmpF l m k = cmpF m l k
  | 0, _ => rfl
  | k + 1, hk => by
    rw [cmpF_succ (by omega) (by omega), cmpF_succ (by omega) (by omega), cmpF_swap h k (by omega)]
    simp only [cmpStep]
    rw [absF_swap l[k] m[k]]
/-- The count: how many pixels differ; one does where the greatest difference is not 0. -/
theorem cmpF_count {l m : List Int} {k : Nat} (h : k < l.length) (h' : k < m.length) : (cmpF l m (k + 1)).2 = if l[k] = m[k] then (cmpF l m k).2 else (cmpF l m k).2 + 1 := by
  rw [cmpF_succ h h']
  simp only [cmpStep]
  have := absF_pos l[k] m[k]
  by_cases e : l[k] = m[k]
  · rw [if_pos e, if_neg (by rw [this]; simpa using e)]
  · rw [if_neg e, if_pos (by rw [this]; exact e)]
theorem cmpF_both {l m : List Int} (h : l.length = m.length) : ∀ k, k ≤ l.length → (0 ≤ (cmpF l m k).1 ∧ 0 ≤ (cmpF l m k).2) ∧ (0 < (cmpF l m k).1 ↔ 0 < (cmpF l m k).2)
  | 0, _ => by simp [cmpF]
  | k + 1, hk => by
    obtain ⟨⟨i1, i2⟩, i3⟩ := cmpF_both h k (by omega)
    rw [cmpF_succ (by omega) (by omega)]
    simp only [cmpStep]
    generalize cmpF l m k = p at *
    generalize absF (l[k] - m[k]) = d
    split
    · exact ⟨⟨by omega, by omega⟩, by omega⟩
    · exact ⟨⟨by omega, by omega⟩, by omega⟩
theorem flip_valid {W H : Int} {l : List Int} (h : validImg W H l = true) : validImg W H (flipF W H l) = true := by
  have hl := flipF_len W H l
  unfold flipF at *
  rw [h] at hl ⊢
  simp only [if_true] at hl ⊢
  unfold validImg at h ⊢
  simp only [Bool.and_eq_true, decide_eq_true_eq] at h ⊢
  obtain ⟨h1, h2, h3⟩ := h
  refine ⟨h1, by rw [hl]; exact h2, ?_⟩
  unfold mixF
  rw [List.drop_eq_nil_of_le (Nat.le_refl _), List.append_nil]
  unfold allIn at h3 ⊢
  rw [List.all_eq_true] at h3 ⊢
  intro x hx
  obtain ⟨k, _, rfl⟩ := List.mem_map.1 hx
  unfold flipAt
  rcases hk : l[k / W.toNat * W.toNat + W.toNat - 1 - k % W.toNat]? with _ | y
  · decide
  · exact h3 y (List.mem_of_getElem? hk)
theorem drawn_valid {a b : Nat} {px : List Int} (ha : 1 ≤ a ∧ a ≤ 4) (hb : 1 ≤ b ∧ b ≤ 4) (hl : px.length = a * b) (h : allIn px 0 256 = true) : validImg a b px = true := by
  unfold validImg sizeB
  rw [h, inB_mk (by omega) (by omega), inB_mk (by omega) (by omega), hl]
  simp
theorem cmpV_drawn {W H : Int} {l m : List Int} (h : validImg W H l = true) (h' : validImg W H m = true) : cmpV W H l W H m = .tuple #[.int .i64 (cmpF l m l.length).1, .int .i64 (cmpF l m l.length).2, .bool true] := by
  unfold cmpV cmpOk; rw [h, h']; simp
set_option maxHeartbeats 16000000 in
theorem L_FnCompare : BytesLaw 4 := by
  intro A c l w h
  have HR := Lib.hid h
  have hlm := h.len
  unfold maxLen at hlm
  clear h
  rcases Nat.lt_or_ge 1048576 l.length with hbig | hsm
  · have hb' : (1048576 : Int) < (l.length : Int) := by omega
    go_enter Try.func4, Try.ntmps4
    go_wp2
    go_ret
    exact ⟨rfl, (by repeat (first | (with_reducible exact Below.refl _ _) | (with_reducible assumption) | ((with_reducible refine Below.alloc ?_ ?_ _); rotate_left; (first | omega | (simp <;> omega))) | ((with_reducible refine Below.setCell ?_ ?_ _); rotate_left; (first | omega | (simp <;> omega))) | (with_reducible refine below_drewN ?_ _) | (with_reducible refine Below.drew ?_) | ((with_reducible refine Below.step (by assumption) ?_ ?_); rotate_left; (first | omega | (simp <;> omega)))))⟩
  have hb' : ¬ (1048576 : Int) < (l.length : Int) := by omega
  go_enter Try.func4, Try.ntmps4
  go_wp2_with fail
  refine (S_makeImage _ hsm HR.out).mono ?_
  rintro e w1 ⟨⟨a, b, px, P, k, ha, hb, hpx, hal, rfl, ho, hge⟩, hB1⟩
  have hz1 := hB1.size
  have hpl : px.length ≤ 16 := by rw [hpx]; exact Nat.mul_le_mul ha.2 hb.2
  have hv := drawn_valid ha hb hpx hal
  have hv2 := flip_valid hv
  have hfl := flipF_len a b px
  have HP1 := Lib.hid ho
  have HFE : Hid (∀ wx : World, RS wx 1 P px.length k (ints px) → Calls Try.prog 21 #[vImage a b (.slice P px.length k)] wx (MadeImage (fun s0 => vImage a b s0) px.length (ints (flipF a b px)) wx)) := fun wx hx => I_FlipImage (W := a) (H := b) (l := px) wx (by omega) hx
  obtain ⟨F, hF⟩ : ∃ F, flipF a b px = F := ⟨_, rfl⟩
  rw [hF] at hv2 hfl HFE
  have HC12 : Hid (∀ (wx : World) (Q : Option Addr) (q : Nat), RS wx 1 P px.length k (ints px) → RS wx 1 Q px.length q (ints F) → Calls Try.prog 22 #[vImage a b (.slice P px.length k), vImage a b (.slice Q px.length q)] wx fun e w' => e = .returned (.tuple #[.int .i64 (cmpF px F px.length).1, .int .i64 (cmpF px F px.length).2, .bool true]) ∧ Below wx.heap.size wx w') := by
    intro wx Q q h1 h2
    rw [← hfl] at h2
    have := I_CompareImages (W := a) (H := b) (W' := a) (H' := b) wx h1 h2
    rw [cmpV_drawn hv hv2, hfl] at this
    exact this
  have HC21 : Hid (∀ (wx : World) (Q : Option Addr) (q : Nat), RS wx 1 P px.length k (ints px) → RS wx 1 Q px.length q (ints F) → Calls Try.prog 22 #[vImage a b (.slice Q px.length q), vImage a b (.slice P px.length k)] wx fun e w' => e = .returned (.tuple #[.int .i64 (cmpF px F px.length).1, .int .i64 (cmpF px F px.length).2, .bool true]) ∧ Below wx.heap.size wx w') := by
    intro wx Q q h1 h2
    rw [← hfl] at h2
    have := I_CompareImages (W := a) (H := b) (W' := a) (H' := b) wx h2 h1
    rw [cmpV_drawn hv2 hv, hfl, cmpF_swap (l := F) (m := px) hfl px.length (by omega)] at this
    exact this
  obtain ⟨⟨c1, c2⟩, c3⟩ := cmpF_both (l := px) (m := F) hfl.symm px.length (Nat.le_refl _)
  have HCT : Hid (∀ i (h : i < px.length), ∃ x y : Int, (ints px)[i]? = some (.int .i64 x) ∧ (ints F)[i]? = some (.int .i64 y) ∧ (x = y → (cmpF px F (i + 1)).2 = (cmpF px F i).2) ∧ (¬ x = y → (cmpF px F (i + 1)).2 = (cmpF px F i).2 + 1) ∧ 0 ≤ (cmpF px F i).2 ∧ (cmpF px F i).2 ≤ i) := by
    intro i h
    have hm : i < F.length := by omega
    have hc := cmpF_count (l := px) (m := F) h hm
    have hr := (cmpF_both (l := px) (m := F) hfl.symm i (by omega)).1.2
    refine ⟨px[i], F[i], ints_at h, ints_at hm, fun e => by rw [hc, if_pos e], fun e => by rw [hc, if_neg e], hr, ?_⟩
    have : ∀ n, n ≤ px.length → (cmpF px F n).2 ≤ n := by
      intro n
      induction n with
      | zero => intro _; simp [cmpF]
      | succ n ih =>
        intro hn
        rw [cmpF_count (by omega) (by omega)]
        have := ih (by omega)
        split <;> omega
    exact this i (by omega)
  have hce : ((decide (0 < (cmpF px F px.length).1)) == (decide (0 < (cmpF px F px.length).2))) = true := by
    by_cases e : 0 < (cmpF px F px.length).1
    · have e2 := c3.1 e; simp [e, e2]
    · have e2 : ¬ 0 < (cmpF px F px.length).2 := fun h => e (c3.2 h); simp [e, e2]
  obtain ⟨u, hu⟩ : ∃ u, (cmpF px F px.length).1 = u := ⟨_, rfl⟩
  obtain ⟨v, hvv⟩ : ∃ v, (cmpF px F px.length).2 = v := ⟨_, rfl⟩
  rw [hu, hvv] at HC12 HC21 hce
  have HVV := Lib.hid hvv
  clear ho hv hv2 hpx hal hfl hF hu hvv c1 c2 c3
  go_wp2_with fail
  refine (HFE.out _ (RS.step (by repeat (first | (with_reducible exact Below.refl _ _) | (with_reducible assumption) | ((with_reducible refine Below.alloc ?_ ?_ _); rotate_left; (first | omega | (simp <;> omega))) | ((with_reducible refine Below.setCell ?_ ?_ _); rotate_left; (first | omega | (simp <;> omega))) | (with_reducible refine below_drewN ?_ _) | (with_reducible refine Below.drew ?_) | ((with_reducible refine Below.step (by assumption) ?_ ?_); rotate_left; (first | omega | (simp <;> omega))))) HP1.out.rs)).mono ?_
  rintro e w2 ⟨Q, q, rfl, ho2, hge2, hB2⟩
  dsimp only
  have hz2 := hB2.size
  (try simp at hz2)
  have hab : Own w2 w1.heap.size 38 [.int .i64 a, .int .i64 b, .slice P px.length k] := Own.step hB2 (Own.new w1 _ #[_, _, _])
  have HB2 : Hid (Below w.heap.size w w2) := Lib.hid (Below.trans (Below.alloc hB1 hB1.size _) (hB2.mono (by simp; omega)))
  have HP2 := Lib.hid (RS.step hB2 (RS.alloc HP1.out.rs _))
  have HQ2 := Lib.hid ho2.rs
  have a0 := hab.cell 0
  have a1 := hab.cell 1
  have a2 := hab.cell 2
  have al := hab.lt
  simp only [List.getElem?_cons_zero, List.getElem?_cons_succ] at a0 a1 a2
  have HAB := Lib.hid hab
  clear hab ho2 hB1 hB2
  go_wp2_with fail
  refine (HC12.out _ Q q (RS.alloc HP2.out _) (RS.alloc HQ2.out _)).mono ?_
  rintro e w3 ⟨rfl, hB3⟩
  have hz3 := hB3.size
  (try simp at hz3)
  have HP3 := Lib.hid (RS.step hB3 (RS.alloc HP2.out _))
  have HQ3 := Lib.hid (RS.step hB3 (RS.alloc HQ2.out _))
  have hab3 := Own.step hB3 (Own.alloc HAB.out _)
  have hbb3 : Own w3 w2.heap.size 38 [.int .i64 a, .int .i64 b, .slice Q px.length q] := Own.step hB3 (Own.new w2 _ #[_, _, _])
  have HAB3 := Lib.hid hab3
  have HBB3 := Lib.hid hbb3
  have b0 := hbb3.cell 0
  have b1 := hbb3.cell 1
  have b2 := hbb3.cell 2
  have a0' := hab3.cell 0
  have a1' := hab3.cell 1
  have a2' := hab3.cell 2
  simp only [List.getElem?_cons_zero, List.getElem?_cons_succ] at b0 b1 b2 a0' a1' a2'
  have HB3 : Hid (Below w.heap.size w w3) := Lib.hid (Below.trans (Below.alloc HB2.out HB2.out.size _) (hB3.mono (by have := HB2.out.size; simp; omega)))
  clear hab3 hbb3 hB3 a0 a1 a2
  go_wp2_with fail
  refine (HC21.out _ Q q HP3.out HQ3.out).mono ?_
  rintro e w4 ⟨rfl, hB4⟩
  have hz4 := hB4.size
  have HP4 := Lib.hid (RS.step hB4 HP3.out)
  have HQ4 := Lib.hid (RS.step hB4 HQ3.out)
  have hab4 := Own.step hB4 HAB3.out
  have hbb4 := Own.step hB4 HBB3.out
  have HAB4 := Lib.hid hab4
  have HBB4 := Lib.hid hbb4
  have HB4 : Hid (Below w.heap.size w w4) := Lib.hid (Below.trans HB3.out (hB4.mono HB3.out.size))
  have a0 := hab4.cell 0
  have a1 := hab4.cell 1
  have a2 := hab4.cell 2
  simp only [List.getElem?_cons_zero, List.getElem?_cons_succ] at a0 a1 a2
  clear b0 b1 b2 a0' a1' a2' hab4 hbb4 hB4
  go_wp2_with fail
  go_loopw [11, 12, 37] (fun cnt _ i wr => ∃ n : Nat, n ≤ px.length ∧ i = .int .i64 n ∧ cnt = .int .i64 (cmpF px F n).2 ∧ Below w4.heap.size w4 wr) (fun _ _ i _ => px.length - (intOf i).toNat)
  case atStart => exact ⟨0, Nat.zero_le _, rfl, rfl, Below.refl _ _⟩
  case round =>
    obtain ⟨n, hn, rfl, rfl, hb⟩ := hrel
    have hpa := RS.step hb HP4.out
    have hqa := RS.step hb HQ4.out
    have hab := Own.step hb HAB4.out
    have hbb := Own.step hb HBB4.out
    have a0 := hab.cell 0
    have a1 := hab.cell 1
    have a2 := hab.cell 2
    have b0 := hbb.cell 0
    have b1 := hbb.cell 1
    have b2 := hbb.cell 2
    simp only [List.getElem?_cons_zero, List.getElem?_cons_succ] at b0 b1 b2 a0 a1 a2
    have HB := Lib.hid hb
    clear hab hbb hb
    by_cases hlt : n < px.length
    · obtain ⟨x, y, hx, hy, hs, hd, hc0, hc1⟩ := HCT.out n hlt
      obtain ⟨bp, op, rfl, _, hcp⟩ := hpa.open_.2.2 (by omega)
      obtain ⟨bq, oq, rfl, _, hcq⟩ := hqa.open_.2.2 (by omega)
      have x1 : wr.cell? ⟨bp, op + n, none⟩ = some (.int .i64 x) := by rw [hcp n (by omega), hx]
      have x2 : wr.cell? ⟨bq, oq + n, none⟩ = some (.int .i64 y) := by rw [hcq n (by omega), hy]
      have i0 : (0 : Int) ≤ n := by omega
      have i1 : (n : Int) < px.length := by omega
      have w1' : IntKind.i64.wrap ((n : Int) + 1) = (n : Int) + 1 := IntWalk.i64_in _ (by omega)
      have w2' : IntKind.i64.wrap ((cmpF px F n).2 + 1) = (cmpF px F n).2 + 1 := IntWalk.i64_in _ (by omega)
      clear hpa hqa hcp hcq hx hy
      by_cases he : x = y
      · have hne : (x != y) = false := by simpa using he
        have HS := Lib.hid (hs he)
        clear hs hd he
        go_wp2_with fail
        go_quiet (fail)
        go_wp2
        go_roundw
        case rel => exact ⟨n + 1, by omega, by go_num, by rw [HS.out], below_drewN HB.out _⟩
        case measure => simp [intOf]; omega
      · have hne : (x != y) = true := by simpa using he
        have HS := Lib.hid (hd he)
        clear hs hd he
        go_wp2_with fail
        go_quiet (fail)
        go_wp2
        go_roundw
        case rel => exact ⟨n + 1, by omega, by go_num, by rw [HS.out], below_drewN HB.out _⟩
        case measure => simp [intOf]; omega
    · obtain rfl : n = px.length := by omega
      have i1 : ¬ (px.length : Int) < px.length := by omega
      rw [HVV.out]
      clear hpa hqa
      go_wp2
      go_ret
      exact ⟨rfl, Below.trans HB4.out (HB.out.mono HB4.out.size)⟩
set_option maxRecDepth 100000 in
theorem FnCompare_walk : LawWalk 4 [35] := bytes_walk L_FnCompare
end Go.Proofs.Ythfnldjldfkmnaa
