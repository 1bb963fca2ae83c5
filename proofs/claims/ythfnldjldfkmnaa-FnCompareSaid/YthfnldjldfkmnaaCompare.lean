/- CompareImages of the reference and of the program. -/
import Derived.Test.YthfnldjldfkmnaaDigest
import Derived.Deep.RegionHeld3
namespace Go.Proofs.Ythfnldjldfkmnaa
open Go.RowKit
set_option linter.unusedVariables false
def cmpStep (p q : Int × Int) : Int × Int := (max p.1 (absF (q.1 - q.2)), if 0 < absF (q.1 - q.2) then p.2 + 1 else p.2)
def cmpF (l m : List Int) (k : Nat) : Int × Int := ((l.zip m).take k).foldl cmpStep (0, 0)
theorem cmpF_succ {l m : List Int} {k : Nat} (h : k < l.length) (h' : k < m.length) : cmpF l m (k + 1) = cmpStep (cmpF l m k) (l[k], m[k]) := by
  have hk : k < (l.zip m).length := by simp; omega
  unfold cmpF
  rw [List.take_succ_eq_append_getElem hk, List.foldl_append]
  simp
theorem cmpF_rng {l m : List Int} (hl : allIn l 0 256 = true) (hm : allIn m 0 256 = true) : ∀ k, k ≤ l.length → l.length = m.length → (0 ≤ (cmpF l m k).1 ∧ (cmpF l m k).1 ≤ 256) ∧ 0 ≤ (cmpF l m k).2 ∧ (cmpF l m k).2 ≤ k
  | 0, _, _ => by simp [cmpF]
  | k + 1, hk, he => by
    have ih := cmpF_rng hl hm k (by omega) he
    have a := allIn_get hl (k := k) (by omega)
    have b := allIn_get hm (k := k) (by omega)
    rw [cmpF_succ (by omega) (by omega)]
    unfold cmpStep absF
    dsimp only
    generalize l[k] = x at *
    generalize m[k] = y at *
    refine ⟨?_, ?_⟩ <;> (repeat' split) <;> omega
/-- One step, as the walk spells it. -/
theorem cmp_cases (u v x y : Int) (hu : 0 ≤ u) (hx : 0 ≤ x ∧ x ≤ 256) (hy : 0 ≤ y ∧ y ≤ 256) : 0 ≤ absF (x - y) ∧ absF (x - y) ≤ 256 ∧ ((0 < absF (x - y) ∧ cmpStep (u, v) (x, y) = (max u (absF (x - y)), v + 1)) ∨ (¬ 0 < absF (x - y) ∧ max u (absF (x - y)) = u ∧ cmpStep (u, v) (x, y) = (u, v))) := by
  have h : 0 ≤ absF (x - y) ∧ absF (x - y) ≤ 256 := by unfold absF; split <;> omega
  refine ⟨h.1, h.2, ?_⟩
  unfold cmpStep
  dsimp only
  by_cases hd : 0 < absF (x - y)
  · left; rw [if_pos hd]; exact ⟨hd, rfl⟩
  · right; rw [if_neg hd]; have : max u (absF (x - y)) = u := by omega
    exact ⟨hd, this, by rw [this]⟩
def cmpOk (W H : Int) (l : List Int) (W' H' : Int) (m : List Int) : Bool := validImg W H l && (validImg W' H' m && (decide (W = W') && decide (H = H')))
def cmpV (W H : Int) (l : List Int) (W' H' : Int) (m : List Int) : Value :=
  if cmpOk W H l W' H' m then .tuple #[.int .i64 (cmpF l m l.length).1, .int .i64 (cmpF l m l.length).2, .bool true] else .tuple #[.int .i64 0, .int .i64 0, .bool false]
theorem cmpV_form (W H : Int) (l : List Int) (W' H' : Int) (m : List Int) : ∃ p q b, cmpV W H l W' H' m = .tuple #[.int .i64 p, .int .i64 q, .bool b] := by
  unfold cmpV; split <;> exact ⟨_, _, _, rfl⟩
theorem cmp_ways (W H : Int) (l : List Int) (W' H' : Int) (m : List Int) : (validImg W H l = true ∧ validImg W' H' m = true ∧ (W != W') = false ∧ (H != H') = false ∧ Hid (cmpOk W H l W' H' m = true)) ∨
    (validImg W H l = false ∧ Hid (cmpOk W H l W' H' m = false)) ∨ (validImg W H l = true ∧ validImg W' H' m = false ∧ Hid (cmpOk W H l W' H' m = false)) ∨
    (validImg W H l = true ∧ validImg W' H' m = true ∧ (W != W') = true ∧ Hid (cmpOk W H l W' H' m = false)) ∨ (validImg W H l = true ∧ validImg W' H' m = true ∧ (W != W') = false ∧ (H != H') = true ∧ Hid (cmpOk W H l W' H' m = false)) := by
  unfold Hid cmpOk
  cases h1 : validImg W H l <;> cases h2 : validImg W' H' m <;> by_cases h3 : W = W' <;> by_cases h4 : H = H' <;> simp [h3, h4]
set_option maxHeartbeats 2000000 in
theorem I_CompareImages {W H W' H' : Int} {A A' : Option Addr} {c c' : Nat} {l m : List Int} (w : World) (h : RS w 1 A l.length c (ints l)) (h' : RS w 1 A' m.length c' (ints m)) :
    Calls Try.prog 22 #[vImage W H (.slice A l.length c), vImage W' H' (.slice A' m.length c')] w fun e w' => e = .returned (cmpV W H l W' H' m) ∧ Below w.heap.size w w' := by
  have hl := h.len
  have hl' := h'.len
  unfold maxLen at hl hl'
  have HA := Lib.hid h
  have HB := Lib.hid h'
  clear h h'
  rcases cmp_ways W H l W' H' m with ⟨q1, q2, q3, q4, q5⟩ | ⟨q1, q5⟩ | ⟨q1, q2, q5⟩ | ⟨q1, q2, q3, q5⟩ | ⟨q1, q2, q3, q4, q5⟩
  case inr.inl =>
    have HV : Hid (cmpV W H l W' H' m = .tuple #[.int .i64 0, .int .i64 0, .bool false]) := by show _ = _; unfold cmpV; rw [q5.out]; rfl
    go_enter Try.func22, Try.ntmps22
    go_wp2_with fail
    refine (I_IsValidImage _ (RS.alloc (RS.alloc HA.out _) _)).mono ?_
    rintro e w' ⟨rfl, hb⟩; have hz := hb.size; (try simp at hz); have c0 := fun o => hb.cell (p := ⟨w.heap.size, o, none⟩) (by first | omega | (simp <;> omega)); have f0 := fun o => hb.frozen (p := ⟨w.heap.size, o, none⟩) (by first | omega | (simp <;> omega)); have z0 : w.heap.size < w'.heap.size := (by omega); have c1 := fun o => hb.cell (p := ⟨w.heap.size + 1, o, none⟩) (by first | omega | (simp <;> omega)); have f1 := fun o => hb.frozen (p := ⟨w.heap.size + 1, o, none⟩) (by first | omega | (simp <;> omega)); have z1 : w.heap.size + 1 < w'.heap.size := (by omega)
    go_wp2
    rw [HV.out]
    exact bodyPost_ret (v := .tuple #[.int .i64 0, .int .i64 0, .bool false]) (by simp [results, Try.results22, go_sem]) rfl ⟨rfl, (by repeat (first | (with_reducible exact Below.refl _ _) | (with_reducible assumption) | ((with_reducible refine Below.alloc ?_ ?_ _); rotate_left; (first | omega | (simp <;> omega))) | ((with_reducible refine Below.setCell ?_ ?_ _); rotate_left; (first | omega | (simp <;> omega))) | (with_reducible refine below_drewN ?_ _) | (with_reducible refine Below.drew ?_) | ((with_reducible refine Below.step (by assumption) ?_ ?_); rotate_left; (first | omega | (simp <;> omega)))))⟩
  case inl =>
    have HV : Hid (cmpV W H l W' H' m = .tuple #[.int .i64 (cmpF l m l.length).1, .int .i64 (cmpF l m l.length).2, .bool true]) := by show _ = _; unfold cmpV; rw [q5.out]; rfl
    have hle : l.length = m.length := by
      have a := (validImg_len q1).2.2.1
      have b := (validImg_len q2).2.2.1
      simp at q3 q4
      rw [q3, q4] at a
      omega
    have HLE := Lib.hid hle
    have HI := Lib.hid (validImg_len q1).2.2.2.2
    have HJ := Lib.hid (validImg_len q2).2.2.2.2
    have HK := Lib.hid (cmpF_rng HI.out HJ.out)
    have hlen := (validImg_len q1).2.2.2.1
    clear hle
    go_enter Try.func22, Try.ntmps22
    go_wp2_with fail
    refine (I_IsValidImage _ (RS.alloc (RS.alloc HA.out _) _)).mono ?_
    rintro e w' ⟨rfl, hb⟩; have hz := hb.size; (try simp at hz); have c0 := fun o => hb.cell (p := ⟨w.heap.size, o, none⟩) (by first | omega | (simp <;> omega)); have f0 := fun o => hb.frozen (p := ⟨w.heap.size, o, none⟩) (by first | omega | (simp <;> omega)); have z0 : w.heap.size < w'.heap.size := (by omega); have c1 := fun o => hb.cell (p := ⟨w.heap.size + 1, o, none⟩) (by first | omega | (simp <;> omega)); have f1 := fun o => hb.frozen (p := ⟨w.heap.size + 1, o, none⟩) (by first | omega | (simp <;> omega)); have z1 : w.heap.size + 1 < w'.heap.size := (by omega)
    have H1 := Lib.hid (RS.step hb (RS.alloc (RS.alloc HA.out (.cells #[.int .i64 W, .int .i64 H, .slice A l.length c] 38)) (.cells #[.int .i64 W', .int .i64 H', .slice A' m.length c'] 38)))
    have H2 := Lib.hid (RS.step hb (RS.alloc (RS.alloc HB.out (.cells #[.int .i64 W, .int .i64 H, .slice A l.length c] 38)) (.cells #[.int .i64 W', .int .i64 H', .slice A' m.length c'] 38)))
    have hB1 : Below w.heap.size w w' := (by repeat (first | (with_reducible exact Below.refl _ _) | (with_reducible assumption) | ((with_reducible refine Below.alloc ?_ ?_ _); rotate_left; (first | omega | (simp <;> omega))) | ((with_reducible refine Below.setCell ?_ ?_ _); rotate_left; (first | omega | (simp <;> omega))) | (with_reducible refine below_drewN ?_ _) | (with_reducible refine Below.drew ?_) | ((with_reducible refine Below.step (by assumption) ?_ ?_); rotate_left; (first | omega | (simp <;> omega)))))
    have HB1 := Lib.hid hB1
    clear hB1
    clear hb
    go_wp2_with fail
    refine (I_IsValidImage _ H2.out).mono ?_
    rename_i w1 hz01 _
    rintro e w2 ⟨rfl, hb⟩
    have hz := hb.size
    have c2 := fun o => hb.cell (p := ⟨w.heap.size, o, none⟩) (by omega)
    have c3 := fun o => hb.cell (p := ⟨w.heap.size + 1, o, none⟩) (by omega)
    have H3 := Lib.hid (RS.step hb H1.out)
    have H4 := Lib.hid (RS.step hb H2.out)
    have HB2 : Hid (Below w.heap.size w w2) := Below.step hb HB1.out (by omega)
    obtain ⟨_, _, hr⟩ := H3.out.open_
    obtain ⟨_, _, hr'⟩ := H4.out.open_
    have HR := Lib.hid hr
    have HR' := Lib.hid hr'
    clear hb hr hr'
    go_wp2
    go_loop [7, 8, 9, 10, 11, 37] (fun u v _ _ _ i => ∃ k : Nat, k ≤ l.length ∧ i = .int .i64 k ∧ u = .int .i64 (cmpF l m k).1 ∧ v = .int .i64 (cmpF l m k).2) (fun _ _ _ _ _ i => l.length - (intOf i).toNat)
    case atStart => exact ⟨0, Nat.zero_le _, rfl, rfl, rfl⟩
    case round =>
      obtain ⟨k, hk, rfl, rfl, rfl⟩ := hrel
      obtain ⟨⟨k1, k2⟩, k3, k4⟩ := HK.out k hk HLE.out
      by_cases hlt : k < l.length
      · have hlt' : k < m.length := by have := HLE.out; omega
        obtain ⟨b, o, rfl, hbh, hcell⟩ := HR.out (by omega)
        obtain ⟨b', o', rfl, hbh', hcell'⟩ := HR'.out (by omega)
        have d1 : w2.cell? ⟨b, o + k, none⟩ = some (.int .i64 l[k]) := by rw [hcell k (by omega), ints_at hlt]
        have d2 : w2.cell? ⟨b', o' + k, none⟩ = some (.int .i64 m[k]) := by rw [hcell' k (by omega), ints_at hlt']
        have i1 : (0 : Int) ≤ k := by omega
        have i2 : (k : Int) < m.length := by omega
        have a := allIn_get HI.out hlt
        have b := allIn_get HJ.out hlt'
        have HS := Lib.hid (cmpF_succ hlt hlt')
        clear hcell hcell'
        generalize hp : cmpF l m k = p at *
        have HP := Lib.hid hp
        clear hp
        obtain ⟨u, v⟩ := p
        dsimp only at k1 k2 k3 k4
        generalize l[k] = x at *
        generalize m[k] = y at *
        obtain ⟨r1, r2, ⟨r3, r4⟩ | ⟨r3, r5, r4⟩⟩ := cmp_cases u v x y k1 a b
        all_goals
          obtain ⟨a1, a2⟩ := a
          obtain ⟨b1, b2⟩ := b
          have HS2 := Lib.hid (HS.out.trans r4)
          clear r4
          go_wp2_with (go_at_call 95; refine (I_abs _ (by omega) (by omega) _).mono ?_; rintro e w' ⟨rfl, rfl⟩)
          go_round
          case rel => exact ⟨k + 1, by omega, by go_num, (by rw [HS2.out]; first | done | exact congrArg (Value.int .i64) (by dsimp only; (repeat' split) <;> omega)), by rw [HS2.out]⟩
          case measure => simp [intOf]; omega
      · obtain rfl : k = l.length := by omega
        go_wp2
        rw [HV.out]
        exact bodyPost_ret (v := .tuple #[.int .i64 (cmpF l m l.length).1, .int .i64 (cmpF l m l.length).2, .bool true]) (by simp [results, Try.results22, go_sem]) rfl ⟨rfl, HB2.out⟩
  all_goals
    have HV : Hid (cmpV W H l W' H' m = .tuple #[.int .i64 0, .int .i64 0, .bool false]) := by show _ = _; unfold cmpV; rw [q5.out]; rfl
    go_enter Try.func22, Try.ntmps22
    go_wp2_with fail
    refine (I_IsValidImage _ (RS.alloc (RS.alloc HA.out _) _)).mono ?_
    rintro e w' ⟨rfl, hb⟩; have hz := hb.size; (try simp at hz); have c0 := fun o => hb.cell (p := ⟨w.heap.size, o, none⟩) (by first | omega | (simp <;> omega)); have f0 := fun o => hb.frozen (p := ⟨w.heap.size, o, none⟩) (by first | omega | (simp <;> omega)); have z0 : w.heap.size < w'.heap.size := (by omega); have c1 := fun o => hb.cell (p := ⟨w.heap.size + 1, o, none⟩) (by first | omega | (simp <;> omega)); have f1 := fun o => hb.frozen (p := ⟨w.heap.size + 1, o, none⟩) (by first | omega | (simp <;> omega)); have z1 : w.heap.size + 1 < w'.heap.size := (by omega)
    have H2 := Lib.hid (RS.step hb (RS.alloc (RS.alloc HB.out (.cells #[.int .i64 W, .int .i64 H, .slice A l.length c] 38)) (.cells #[.int .i64 W', .int .i64 H', .slice A' m.length c'] 38)))
    have hB1 : Below w.heap.size w w' := (by repeat (first | (with_reducible exact Below.refl _ _) | (with_reducible assumption) | ((with_reducible refine Below.alloc ?_ ?_ _); rotate_left; (first | omega | (simp <;> omega))) | ((with_reducible refine Below.setCell ?_ ?_ _); rotate_left; (first | omega | (simp <;> omega))) | (with_reducible refine below_drewN ?_ _) | (with_reducible refine Below.drew ?_) | ((with_reducible refine Below.step (by assumption) ?_ ?_); rotate_left; (first | omega | (simp <;> omega)))))
    have HB1 := Lib.hid hB1
    clear hb hB1
    go_wp2_with fail
    refine (I_IsValidImage _ H2.out).mono ?_
    rename_i w1 hz01 _
    rintro e w2 ⟨rfl, hb⟩
    have hz := hb.size
    have c2 := fun o => hb.cell (p := ⟨w.heap.size, o, none⟩) (by omega)
    have c3 := fun o => hb.cell (p := ⟨w.heap.size + 1, o, none⟩) (by omega)
    have HB2 : Hid (Below w.heap.size w w2) := Below.step hb HB1.out (by omega)
    clear hb
    go_wp2
    rw [HV.out]
    exact bodyPost_ret (v := .tuple #[.int .i64 0, .int .i64 0, .bool false]) (by simp [results, Try.results22, go_sem]) rfl ⟨rfl, HB2.out⟩
end Go.Proofs.Ythfnldjldfkmnaa
