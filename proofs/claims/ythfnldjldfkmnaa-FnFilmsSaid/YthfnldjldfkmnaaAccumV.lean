/- IsValidAccum of the reference and of the program. -/
import Derived.Test.YthfnldjldfkmnaaImageV
namespace Go.Proofs.Ythfnldjldfkmnaa
open Go.RowKit
set_option linter.unusedVariables false
/-! ### all pairs of two lists -/
section
variable {α β : Type} {s : List α} {t : List β} {f : α × β → Bool} {k : Nat}
theorem zip_take (h : ((s.zip t).take k).all f = true) (h1 : k < s.length) (h2 : k < t.length) (e : f (s[k], t[k]) = true) : ((s.zip t).take (k + 1)).all f = true := by
  have hk : k < (s.zip t).length := by simp; omega
  rw [List.take_succ_eq_append_getElem hk, List.all_append, h]
  simp [e]
theorem zip_false (h1 : k < s.length) (h2 : k < t.length) (e : f (s[k], t[k]) = false) : (s.zip t).all f = false := by
  have hk : k < (s.zip t).length := by simp; omega
  rw [List.all_eq_false]
  exact ⟨(s.zip t)[k], List.getElem_mem hk, by simp [e]⟩
theorem zip_get (h : (s.zip t).all f = true) (h1 : k < s.length) (h2 : k < t.length) : f (s[k], t[k]) = true := by
  have hk : k < (s.zip t).length := by simp; omega
  rw [List.all_eq_true] at h
  have := h _ (List.getElem_mem hk)
  simpa using this
theorem zip_whole (h : ((s.zip t).take k).all f = true) (hk : (s.zip t).length ≤ k) : (s.zip t).all f = true := by
  rwa [List.take_of_length_le hk] at h
end
/-- The outcomes of the tests on a size and two lengths. -/
theorem head_cases (W H : Int) (n m : Nat) : (sizeB W H = true ∧ inB W 1 12 = true ∧ inB H 1 12 = true ∧ IntKind.i64.wrap (W * H) = W * H ∧ (1 ≤ W * H ∧ W * H ≤ 144) ∧ ((n : Int) != W * H) = false ∧ ((m : Int) != W * H) = false ∧ Hid ((n : Int) = W * H ∧ (m : Int) = W * H)) ∨
    (sizeB W H = true ∧ inB W 1 12 = true ∧ inB H 1 12 = true ∧ IntKind.i64.wrap (W * H) = W * H ∧ (1 ≤ W * H ∧ W * H ≤ 144) ∧ ((n : Int) != W * H) = true ∧ Hid (¬ (n : Int) = W * H)) ∨
    (sizeB W H = true ∧ inB W 1 12 = true ∧ inB H 1 12 = true ∧ IntKind.i64.wrap (W * H) = W * H ∧ (1 ≤ W * H ∧ W * H ≤ 144) ∧ ((n : Int) != W * H) = false ∧ ((m : Int) != W * H) = true ∧ Hid (¬ (m : Int) = W * H)) ∨
    (sizeB W H = false ∧ inB W 1 12 = true ∧ inB H 1 12 = false) ∨ (sizeB W H = false ∧ inB W 1 12 = false) := by
  rcases sizeB_cases W H with ⟨h1, h2, h3⟩ | ⟨h1, h2⟩ | ⟨h1, h2, h3⟩
  · have ha := area_rng h1
    have hp : IntKind.i64.wrap (W * H) = W * H := IntWalk.i64_in _ (by omega)
    by_cases hn : (n : Int) = W * H
    · by_cases hm : (m : Int) = W * H
      · exact .inl ⟨h1, h2, h3, hp, ha, by simp [hn], by simp [hm], ⟨hn, hm⟩⟩
      · exact .inr (.inr (.inl ⟨h1, h2, h3, hp, ha, by simp [hn], by simp [hm], hm⟩))
    · exact .inr (.inl ⟨h1, h2, h3, hp, ha, by simp [hn], hn⟩)
  · exact .inr (.inr (.inr (.inr ⟨h1, h2⟩)))
  · exact .inr (.inr (.inr (.inl ⟨h1, h2, h3⟩)))
def accPair (p : Int × Int) : Bool := inB p.2 0 1000000000 && inB p.1 0 (256 * p.2)
def validAcc (W H : Int) (s t : List Int) : Bool := sizeB W H && (decide ((s.length : Int) = W * H) && (decide ((t.length : Int) = W * H) && (s.zip t).all accPair))
theorem validAcc_yes {W H : Int} {s t : List Int} (h1 : sizeB W H = true) (h2 : (s.length : Int) = W * H ∧ (t.length : Int) = W * H) : validAcc W H s t = (s.zip t).all accPair := by
  unfold validAcc; rw [h1]; simp [h2]
theorem validAcc_n {W H : Int} {s t : List Int} (h : ¬ (s.length : Int) = W * H) : validAcc W H s t = false := by unfold validAcc; simp [h]
theorem validAcc_m {W H : Int} {s t : List Int} (h : ¬ (t.length : Int) = W * H) : validAcc W H s t = false := by unfold validAcc; simp [h]
theorem validAcc_s {W H : Int} {s t : List Int} (h : sizeB W H = false) : validAcc W H s t = false := by unfold validAcc; simp [h]
set_option maxHeartbeats 1000000 in
theorem S_IsValidAccum {W H : Int} {A B : Option Addr} {c d : Nat} {s t : List Int} (w : World) (h : RS w 1 A s.length c (ints s)) (h' : RS w 1 B t.length d (ints t)) :
    Calls Try.prog 115 #[vAccum W H (.slice A s.length c) (.slice B t.length d)] w fun e w' => e = .returned (.bool (validAcc W H s t)) ∧ Below w.heap.size w w' := by
  have hn := h.len
  have hn' := h'.len
  unfold maxLen at hn hn'
  obtain ⟨_, _, hr⟩ := h.open_
  obtain ⟨_, _, hr'⟩ := h'.open_
  have HR := Lib.hid hr
  have HR' := Lib.hid hr'
  clear h h' hr hr'
  rcases head_cases W H s.length t.length with ⟨q1, q2, q3, q4, ⟨q5, q6⟩, q7, q8, q9⟩ | ⟨q1, q2, q3, q4, ⟨q5, q6⟩, q7, q9⟩ | ⟨q1, q2, q3, q4, ⟨q5, q6⟩, q7, q8, q9⟩ | ⟨q1, q2, q3⟩ | ⟨q1, q2⟩
  · have HV := Lib.hid (validAcc_yes q1 q9.out)
    have HE : Hid (s.length = t.length) := by have := q9.out; show s.length = t.length; omega
    clear q9
    go_enter Try.func115, Try.ntmps115
    go_wp2_with (go_at_call 117; refine (S_in _ _ _ _).mono ?_; rintro e w' ⟨rfl, rfl⟩)
    go_loop [3, 4, 40] (fun _ _ i => ∃ k : Nat, k ≤ t.length ∧ i = .int .i64 k ∧ ((s.zip t).take k).all accPair = true) (fun _ _ i => t.length - (intOf i).toNat)
    case atStart => exact ⟨0, Nat.zero_le _, rfl, rfl⟩
    case round =>
      obtain ⟨k, hk, rfl, hst⟩ := hrel
      have HS := Lib.hid hst
      clear hst
      by_cases hlt : k < t.length
      · have hlt' : k < s.length := by have := HE.out; omega
        obtain ⟨b, o, rfl, hbh, hcell⟩ := HR.out (by omega)
        obtain ⟨b', o', rfl, hbh', hcell'⟩ := HR'.out (by omega)
        have c1 : w.cell? ⟨b, o + k, none⟩ = some (.int .i64 s[k]) := by rw [hcell k (by omega), ints_at hlt']
        have c2 : w.cell? ⟨b', o' + k, none⟩ = some (.int .i64 t[k]) := by rw [hcell' k (by omega), ints_at hlt]
        have i1 : (0 : Int) ≤ k := by omega
        have i2 : (k : Int) < s.length := by omega
        clear hcell hcell'
        by_cases ht : inB t[k] 0 1000000000 = true
        · obtain ⟨t1, t2⟩ := inB_true ht
          by_cases hs : inB s[k] 0 (256 * t[k]) = true
          · have hp : accPair (s[k], t[k]) = true := by unfold accPair; simp [ht, hs]
            have HP := Lib.hid hp
            clear hp
            go_wp2_with (go_at_call 117; refine (S_in _ _ _ _).mono ?_; rintro e w' ⟨rfl, rfl⟩)
            go_round
            case rel => exact ⟨k + 1, by omega, by go_num, zip_take HS.out hlt' hlt HP.out⟩
            case measure => simp [intOf]; omega
          · have hs' : inB s[k] 0 (256 * t[k]) = false := by simpa using hs
            have hp : accPair (s[k], t[k]) = false := by unfold accPair; simp [hs']
            have hf : validAcc W H s t = false := by rw [HV.out]; exact zip_false hlt' hlt hp
            have HF := Lib.hid hf
            clear hp hf hs
            go_wp2_with (go_at_call 117; refine (S_in _ _ _ _).mono ?_; rintro e w' ⟨rfl, rfl⟩)
            go_ret
            exact ⟨ret_bool HF.out.symm, (by repeat (first | (with_reducible exact Below.refl _ _) | (with_reducible assumption) | ((with_reducible refine Below.alloc ?_ ?_ _); rotate_left; (first | omega | (simp <;> omega))) | ((with_reducible refine Below.setCell ?_ ?_ _); rotate_left; (first | omega | (simp <;> omega))) | (with_reducible refine below_drewN ?_ _) | (with_reducible refine Below.drew ?_) | ((with_reducible refine Below.step (by assumption) ?_ ?_); rotate_left; (first | omega | (simp <;> omega)))))⟩
        · have ht' : inB t[k] 0 1000000000 = false := by simpa using ht
          have hp : accPair (s[k], t[k]) = false := by unfold accPair; simp [ht']
          have hf : validAcc W H s t = false := by rw [HV.out]; exact zip_false hlt' hlt hp
          have HF := Lib.hid hf
          clear hp hf ht
          go_wp2_with (go_at_call 117; refine (S_in _ _ _ _).mono ?_; rintro e w' ⟨rfl, rfl⟩)
          go_ret
          exact ⟨ret_bool HF.out.symm, (by repeat (first | (with_reducible exact Below.refl _ _) | (with_reducible assumption) | ((with_reducible refine Below.alloc ?_ ?_ _); rotate_left; (first | omega | (simp <;> omega))) | ((with_reducible refine Below.setCell ?_ ?_ _); rotate_left; (first | omega | (simp <;> omega))) | (with_reducible refine below_drewN ?_ _) | (with_reducible refine Below.drew ?_) | ((with_reducible refine Below.step (by assumption) ?_ ?_); rotate_left; (first | omega | (simp <;> omega)))))⟩
      · have hf : validAcc W H s t = true := by rw [HV.out]; exact zip_whole HS.out (by simp; omega)
        have HF := Lib.hid hf
        clear hf
        go_wp2
        go_ret
        exact ⟨ret_bool HF.out.symm, (by repeat (first | (with_reducible exact Below.refl _ _) | (with_reducible assumption) | ((with_reducible refine Below.alloc ?_ ?_ _); rotate_left; (first | omega | (simp <;> omega))) | ((with_reducible refine Below.setCell ?_ ?_ _); rotate_left; (first | omega | (simp <;> omega))) | (with_reducible refine below_drewN ?_ _) | (with_reducible refine Below.drew ?_) | ((with_reducible refine Below.step (by assumption) ?_ ?_); rotate_left; (first | omega | (simp <;> omega)))))⟩
  · have HF := Lib.hid (validAcc_n (s := s) (t := t) q9.out)
    clear q9
    go_enter Try.func115, Try.ntmps115
    go_wp2_with (go_at_call 117; refine (S_in _ _ _ _).mono ?_; rintro e w' ⟨rfl, rfl⟩)
    go_ret
    exact ⟨ret_bool HF.out.symm, (by repeat (first | (with_reducible exact Below.refl _ _) | (with_reducible assumption) | ((with_reducible refine Below.alloc ?_ ?_ _); rotate_left; (first | omega | (simp <;> omega))) | ((with_reducible refine Below.setCell ?_ ?_ _); rotate_left; (first | omega | (simp <;> omega))) | (with_reducible refine below_drewN ?_ _) | (with_reducible refine Below.drew ?_) | ((with_reducible refine Below.step (by assumption) ?_ ?_); rotate_left; (first | omega | (simp <;> omega)))))⟩
  · have HF := Lib.hid (validAcc_m (s := s) (t := t) q9.out)
    clear q9
    go_enter Try.func115, Try.ntmps115
    go_wp2_with (go_at_call 117; refine (S_in _ _ _ _).mono ?_; rintro e w' ⟨rfl, rfl⟩)
    go_ret
    exact ⟨ret_bool HF.out.symm, (by repeat (first | (with_reducible exact Below.refl _ _) | (with_reducible assumption) | ((with_reducible refine Below.alloc ?_ ?_ _); rotate_left; (first | omega | (simp <;> omega))) | ((with_reducible refine Below.setCell ?_ ?_ _); rotate_left; (first | omega | (simp <;> omega))) | (with_reducible refine below_drewN ?_ _) | (with_reducible refine Below.drew ?_) | ((with_reducible refine Below.step (by assumption) ?_ ?_); rotate_left; (first | omega | (simp <;> omega)))))⟩
  all_goals
    have HF := Lib.hid (validAcc_s (s := s) (t := t) q1)
    go_enter Try.func115, Try.ntmps115
    go_wp2_with (go_at_call 117; refine (S_in _ _ _ _).mono ?_; rintro e w' ⟨rfl, rfl⟩)
    go_ret
    exact ⟨ret_bool HF.out.symm, (by repeat (first | (with_reducible exact Below.refl _ _) | (with_reducible assumption) | ((with_reducible refine Below.alloc ?_ ?_ _); rotate_left; (first | omega | (simp <;> omega))) | ((with_reducible refine Below.setCell ?_ ?_ _); rotate_left; (first | omega | (simp <;> omega))) | (with_reducible refine below_drewN ?_ _) | (with_reducible refine Below.drew ?_) | ((with_reducible refine Below.step (by assumption) ?_ ?_); rotate_left; (first | omega | (simp <;> omega)))))⟩
set_option maxHeartbeats 1000000 in
theorem I_IsValidAccum {W H : Int} {A B : Option Addr} {c d : Nat} {s t : List Int} (w : World) (h : RS w 1 A s.length c (ints s)) (h' : RS w 1 B t.length d (ints t)) :
    Calls Try.prog 34 #[vAccum W H (.slice A s.length c) (.slice B t.length d)] w fun e w' => e = .returned (.bool (validAcc W H s t)) ∧ Below w.heap.size w w' := by
  have hn := h.len
  have hn' := h'.len
  unfold maxLen at hn hn'
  obtain ⟨_, _, hr⟩ := h.open_
  obtain ⟨_, _, hr'⟩ := h'.open_
  have HR := Lib.hid hr
  have HR' := Lib.hid hr'
  have HT := Lib.hid (h'.alloc (.cells #[.int .i64 W, .int .i64 H, .slice A s.length c, .slice B t.length d] 61))
  clear h h' hr hr'
  rcases head_cases W H s.length t.length with ⟨q1, q2, q3, q4, ⟨q5, q6⟩, q7, q8, q9⟩ | ⟨q1, q2, q3, q4, ⟨q5, q6⟩, q7, q9⟩ | ⟨q1, q2, q3, q4, ⟨q5, q6⟩, q7, q8, q9⟩ | ⟨q1, q2, q3⟩ | ⟨q1, q2⟩
  · have HV := Lib.hid (validAcc_yes q1 q9.out)
    have HE : Hid (s.length = t.length) := by have := q9.out; show s.length = t.length; omega
    clear q9
    by_cases hw : allIn t 0 1000000000 = true
    · have HW := Lib.hid hw
      go_enter Try.func34, Try.ntmps34
      go_wp2_with (first | (go_at_call 113; refine (I_sizeOk _ _ _).mono ?_; rintro e w' ⟨rfl, rfl⟩) | (go_at_call 106; refine (I_allWithin _ _ _ _ _ _ HT.out).mono ?_; rintro e w' ⟨rfl, rfl⟩))
      go_loop [3, 4, 42] (fun _ _ i => ∃ k : Nat, k ≤ s.length ∧ i = .int .i64 k ∧ ((s.zip t).take k).all accPair = true) (fun _ _ i => s.length - (intOf i).toNat)
      case atStart => exact ⟨0, Nat.zero_le _, rfl, rfl⟩
      case round =>
        obtain ⟨k, hk, rfl, hst⟩ := hrel
        have HS := Lib.hid hst
        clear hst
        by_cases hlt' : k < s.length
        · have hlt : k < t.length := by have := HE.out; omega
          obtain ⟨b, o, rfl, hbh, hcell⟩ := HR.out (by omega)
          obtain ⟨b', o', rfl, hbh', hcell'⟩ := HR'.out (by omega)
          have c1 : w.cell? ⟨b, o + k, none⟩ = some (.int .i64 s[k]) := by rw [hcell k (by omega), ints_at hlt']
          have c2 : w.cell? ⟨b', o' + k, none⟩ = some (.int .i64 t[k]) := by rw [hcell' k (by omega), ints_at hlt]
          have i1 : (0 : Int) ≤ k := by omega
          have i2 : (k : Int) < t.length := by omega
          clear hcell hcell'
          obtain ⟨t1, t2⟩ := allIn_get HW.out hlt
          have ht : inB t[k] 0 1000000000 = true := inB_mk t1 t2
          by_cases hs : inB s[k] 0 (256 * t[k]) = true
          · have hp : accPair (s[k], t[k]) = true := by unfold accPair; simp [ht, hs]
            have HP := Lib.hid hp
            clear hp
            go_wp2_with (go_at_call 105; refine (I_within _ _ _ _).mono ?_; rintro e w' ⟨rfl, rfl⟩)
            go_round
            case rel => exact ⟨k + 1, by omega, by go_num, zip_take HS.out hlt' hlt HP.out⟩
            case measure => simp [intOf]; omega
          · have hs' : inB s[k] 0 (256 * t[k]) = false := by simpa using hs
            have hp : accPair (s[k], t[k]) = false := by unfold accPair; simp [hs']
            have hf : validAcc W H s t = false := by rw [HV.out]; exact zip_false hlt' hlt hp
            have HF := Lib.hid hf
            clear hp hf hs
            go_wp2_with (go_at_call 105; refine (I_within _ _ _ _).mono ?_; rintro e w' ⟨rfl, rfl⟩)
            go_ret
            exact ⟨ret_bool HF.out.symm, (by repeat (first | (with_reducible exact Below.refl _ _) | (with_reducible assumption) | ((with_reducible refine Below.alloc ?_ ?_ _); rotate_left; (first | omega | (simp <;> omega))) | ((with_reducible refine Below.setCell ?_ ?_ _); rotate_left; (first | omega | (simp <;> omega))) | (with_reducible refine below_drewN ?_ _) | (with_reducible refine Below.drew ?_) | ((with_reducible refine Below.step (by assumption) ?_ ?_); rotate_left; (first | omega | (simp <;> omega)))))⟩
        · have hf : validAcc W H s t = true := by rw [HV.out]; exact zip_whole HS.out (by simp; omega)
          have HF := Lib.hid hf
          clear hf
          go_wp2
          go_ret
          exact ⟨ret_bool HF.out.symm, (by repeat (first | (with_reducible exact Below.refl _ _) | (with_reducible assumption) | ((with_reducible refine Below.alloc ?_ ?_ _); rotate_left; (first | omega | (simp <;> omega))) | ((with_reducible refine Below.setCell ?_ ?_ _); rotate_left; (first | omega | (simp <;> omega))) | (with_reducible refine below_drewN ?_ _) | (with_reducible refine Below.drew ?_) | ((with_reducible refine Below.step (by assumption) ?_ ?_); rotate_left; (first | omega | (simp <;> omega)))))⟩
    · have hw' : allIn t 0 1000000000 = false := by simpa using hw
      have hf : validAcc W H s t = false := by
        rw [HV.out]
        unfold allIn at hw'
        rw [List.all_eq_false] at hw'
        obtain ⟨x, hx, hxi⟩ := hw'
        obtain ⟨k, hk, rfl⟩ := List.getElem_of_mem hx
        exact zip_false (k := k) (by have := HE.out; omega) hk (by unfold accPair; simp at hxi; simp [hxi])
      have HF := Lib.hid hf
      clear hf hw
      go_enter Try.func34, Try.ntmps34
      go_wp2_with (first | (go_at_call 113; refine (I_sizeOk _ _ _).mono ?_; rintro e w' ⟨rfl, rfl⟩) | (go_at_call 106; refine (I_allWithin _ _ _ _ _ _ HT.out).mono ?_; rintro e w' ⟨rfl, rfl⟩))
      go_ret
      exact ⟨ret_bool HF.out.symm, (by repeat (first | (with_reducible exact Below.refl _ _) | (with_reducible assumption) | ((with_reducible refine Below.alloc ?_ ?_ _); rotate_left; (first | omega | (simp <;> omega))) | ((with_reducible refine Below.setCell ?_ ?_ _); rotate_left; (first | omega | (simp <;> omega))) | (with_reducible refine below_drewN ?_ _) | (with_reducible refine Below.drew ?_) | ((with_reducible refine Below.step (by assumption) ?_ ?_); rotate_left; (first | omega | (simp <;> omega)))))⟩
  · have HF := Lib.hid (validAcc_n (s := s) (t := t) q9.out)
    clear q9
    go_enter Try.func34, Try.ntmps34
    go_wp2_with (first | (go_at_call 113; refine (I_sizeOk _ _ _).mono ?_; rintro e w' ⟨rfl, rfl⟩) | (go_at_call 106; refine (I_allWithin _ _ _ _ _ _ HT.out).mono ?_; rintro e w' ⟨rfl, rfl⟩))
    go_ret
    exact ⟨ret_bool HF.out.symm, (by repeat (first | (with_reducible exact Below.refl _ _) | (with_reducible assumption) | ((with_reducible refine Below.alloc ?_ ?_ _); rotate_left; (first | omega | (simp <;> omega))) | ((with_reducible refine Below.setCell ?_ ?_ _); rotate_left; (first | omega | (simp <;> omega))) | (with_reducible refine below_drewN ?_ _) | (with_reducible refine Below.drew ?_) | ((with_reducible refine Below.step (by assumption) ?_ ?_); rotate_left; (first | omega | (simp <;> omega)))))⟩
  · have HF := Lib.hid (validAcc_m (s := s) (t := t) q9.out)
    clear q9
    go_enter Try.func34, Try.ntmps34
    go_wp2_with (first | (go_at_call 113; refine (I_sizeOk _ _ _).mono ?_; rintro e w' ⟨rfl, rfl⟩) | (go_at_call 106; refine (I_allWithin _ _ _ _ _ _ HT.out).mono ?_; rintro e w' ⟨rfl, rfl⟩))
    go_ret
    exact ⟨ret_bool HF.out.symm, (by repeat (first | (with_reducible exact Below.refl _ _) | (with_reducible assumption) | ((with_reducible refine Below.alloc ?_ ?_ _); rotate_left; (first | omega | (simp <;> omega))) | ((with_reducible refine Below.setCell ?_ ?_ _); rotate_left; (first | omega | (simp <;> omega))) | (with_reducible refine below_drewN ?_ _) | (with_reducible refine Below.drew ?_) | ((with_reducible refine Below.step (by assumption) ?_ ?_); rotate_left; (first | omega | (simp <;> omega)))))⟩
  all_goals
    have HF := Lib.hid (validAcc_s (s := s) (t := t) q1)
    go_enter Try.func34, Try.ntmps34
    go_wp2_with (first | (go_at_call 113; refine (I_sizeOk _ _ _).mono ?_; rintro e w' ⟨rfl, rfl⟩) | (go_at_call 106; refine (I_allWithin _ _ _ _ _ _ HT.out).mono ?_; rintro e w' ⟨rfl, rfl⟩))
    go_ret
    exact ⟨ret_bool HF.out.symm, (by repeat (first | (with_reducible exact Below.refl _ _) | (with_reducible assumption) | ((with_reducible refine Below.alloc ?_ ?_ _); rotate_left; (first | omega | (simp <;> omega))) | ((with_reducible refine Below.setCell ?_ ?_ _); rotate_left; (first | omega | (simp <;> omega))) | (with_reducible refine below_drewN ?_ _) | (with_reducible refine Below.drew ?_) | ((with_reducible refine Below.step (by assumption) ?_ ?_); rotate_left; (first | omega | (simp <;> omega)))))⟩
end Go.Proofs.Ythfnldjldfkmnaa
