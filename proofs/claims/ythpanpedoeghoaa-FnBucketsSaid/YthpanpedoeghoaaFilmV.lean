/- IsValidFilm of the reference and of the program; IsComplete. -/
import Derived.Test.YthpanpedoeghoaaAccumV
import Derived.Test.YthpanpedoeghoaaSame
import Derived.Test.YthpanpedoeghoaaBools
set_option linter.unusedVariables false
set_option linter.unusedSimpArgs false
set_option linter.unnecessarySimpa false
namespace Go.Proofs.Ythpanpedoeghoaa
open Go.RowKit
set_option linter.unusedVariables false
def filmPair (p : Int × Bool) : Bool := inB p.1 0 256 && (p.2 || decide (p.1 = 0))
def openPair (p : Int × Bool) : Bool := p.2 || decide (p.1 = 0)
def validFilm (W H : Int) (l : List Int) (p : List Bool) : Bool := sizeB W H && (decide ((l.length : Int) = W * H) && (decide ((p.length : Int) = W * H) && (l.zip p).all filmPair))
theorem validFilm_yes {W H : Int} {s : List Int} {t : List Bool} (h1 : sizeB W H = true) (h2 : (s.length : Int) = W * H ∧ (t.length : Int) = W * H) : validFilm W H s t = (s.zip t).all filmPair := by
  unfold validFilm; rw [h1]; simp [h2]
theorem validFilm_n {W H : Int} {s : List Int} {t : List Bool} (h : ¬ (s.length : Int) = W * H) : validFilm W H s t = false := by unfold validFilm; simp [h]
theorem validFilm_m {W H : Int} {s : List Int} {t : List Bool} (h : ¬ (t.length : Int) = W * H) : validFilm W H s t = false := by unfold validFilm; simp [h]
theorem validFilm_s {W H : Int} {s : List Int} {t : List Bool} (h : sizeB W H = false) : validFilm W H s t = false := by unfold validFilm; simp [h]
theorem film_split {s : List Int} {t : List Bool} (hl : s.length = t.length) (h : allIn s 0 256 = true) : (s.zip t).all filmPair = (s.zip t).all openPair := by
  have : ∀ p ∈ s.zip t, filmPair p = openPair p := by
    intro p hp
    obtain ⟨a, b⟩ := p
    have := (List.of_mem_zip hp).1
    unfold allIn at h
    rw [List.all_eq_true] at h
    simp [filmPair, openPair, h a this]
  rw [Bool.eq_iff_iff, List.all_eq_true, List.all_eq_true]
  exact ⟨fun h p hp => (this p hp) ▸ h p hp, fun h p hp => (this p hp).symm ▸ h p hp⟩
theorem film_not {s : List Int} {t : List Bool} (hl : s.length = t.length) (h : allIn s 0 256 = false) : (s.zip t).all filmPair = false := by
  unfold allIn at h
  rw [List.all_eq_false] at h
  obtain ⟨x, hx, hxi⟩ := h
  obtain ⟨k, hk, rfl⟩ := List.getElem_of_mem hx
  exact zip_false (k := k) hk (by omega) (by simp only [filmPair]; simp at hxi; simp [hxi])
theorem validFilm_true {W H : Int} {s : List Int} {t : List Bool} (h : validFilm W H s t = true) : sizeB W H = true ∧ (s.length : Int) = W * H ∧ (t.length : Int) = W * H ∧ allIn s 0 256 = true ∧ (s.zip t).all openPair = true ∧ (1 ≤ W ∧ W ≤ 12) ∧ (1 ≤ H ∧ H ≤ 12) ∧ s.length ≤ 144 ∧ s.length = t.length := by
  unfold validFilm at h
  simp only [Bool.and_eq_true, decide_eq_true_eq] at h
  obtain ⟨h1, h2, h3, h4⟩ := h
  obtain ⟨a, b⟩ := sizeB_true h1
  have := area_rng h1
  have hl : s.length = t.length := by omega
  cases hi : allIn s 0 256
  · rw [film_not hl hi] at h4; cases h4
  · exact ⟨h1, h2, h3, rfl, (film_split hl hi) ▸ h4, a, b, by omega, hl⟩
set_option maxHeartbeats 1000000 in
theorem I_IsValidFilm {W H : Int} {A B : Option Addr} {c d : Nat} {s : List Int} {t : List Bool} (w : World) (h : RS w 1 A s.length c (ints s)) (h' : RS w 1 B t.length d (bools t)) :
    Calls Try.prog 20 #[vFilm W H (.slice A s.length c) (.slice B t.length d)] w fun e w' => e = .returned (.bool (validFilm W H s t)) ∧ Below w.heap.size w w' := by
  have hn := h.len
  have hn' := h'.len
  unfold maxLen at hn hn'
  obtain ⟨_, _, hr⟩ := h.open_
  obtain ⟨_, _, hr'⟩ := h'.open_
  have HR := Lib.hid hr
  have HR' := Lib.hid hr'
  have HT := Lib.hid (h.alloc (.cells #[.int .i64 W, .int .i64 H, .slice A s.length c, .slice B t.length d] 32))
  clear h h' hr hr'
  rcases head_cases W H s.length t.length with ⟨q1, q2, q3, q4, ⟨q5, q6⟩, q7, q8, q9⟩ | ⟨q1, q2, q3, q4, ⟨q5, q6⟩, q7, q9⟩ | ⟨q1, q2, q3, q4, ⟨q5, q6⟩, q7, q8, q9⟩ | ⟨q1, q2, q3⟩ | ⟨q1, q2⟩
  · have HV := Lib.hid (validFilm_yes q1 q9.out)
    have HE : Hid (s.length = t.length) := by have := q9.out; show s.length = t.length; omega
    clear q9
    by_cases hw : allIn s 0 256 = true
    · have HV2 : Hid (validFilm W H s t = (s.zip t).all openPair) := HV.out.trans (film_split HE.out hw)
      go_enter Try.func20, Try.ntmps20
      go_wp2_with (first | (go_at_call 31; refine (I_sizeOk _ _ _).mono ?_; rintro e w' ⟨rfl, rfl⟩) | (go_at_call 24; refine (I_allWithin _ _ _ _ _ _ HT.out).mono ?_; rintro e w' ⟨rfl, rfl⟩))
      go_loop [3, 4, 42] (fun _ _ i => ∃ k : Nat, k ≤ t.length ∧ i = .int .i64 k ∧ ((s.zip t).take k).all openPair = true) (fun _ _ i => t.length - (intOf i).toNat)
      case atStart => exact ⟨0, Nat.zero_le _, rfl, rfl⟩
      case round =>
        obtain ⟨k, hk, rfl, hst⟩ := hrel
        have HS := Lib.hid hst
        clear hst
        by_cases hlt : k < t.length
        · have hlt' : k < s.length := by have := HE.out; omega
          obtain ⟨b, o, rfl, hbh, hcell⟩ := HR.out (by omega)
          obtain ⟨b', o', rfl, hbh', hcell'⟩ := HR'.out (by omega)
          have c1 : w.cell? ⟨b, o + k, none⟩ = some (.int .i64 s[k]) := by rw [hcell k (by omega), ints_at hlt']
          have c2 : w.cell? ⟨b', o' + k, none⟩ = some (.bool t[k]) := by rw [hcell' k (by omega), bools_at hlt]
          have i1 : (0 : Int) ≤ k := by omega
          have i2 : (k : Int) < s.length := by omega
          have HY : Hid (openPair (s[k], t[k]) = true → ((s.zip t).take (k + 1)).all openPair = true) := fun hp => zip_take HS.out hlt' hlt hp
          have HN : Hid (openPair (s[k], t[k]) = false → validFilm W H s t = false) := fun hp => by rw [HV2.out]; exact zip_false hlt' hlt hp
          clear hcell hcell'
          generalize s[k] = x at *
          generalize t[k] = y at *
          cases y
          · by_cases hz : x = 0
            · have hz' : (x != 0) = false := by simp [hz]
              have HS2 := Lib.hid (HY.out (by simp [openPair, hz]))
              clear hz
              go_wp2
              go_round
              case rel => exact ⟨k + 1, by omega, by go_num, HS2.out⟩
              case measure => simp [intOf]; omega
            · have hz' : (x != 0) = true := by simp [hz]
              have HF := Lib.hid (HN.out (by simp [openPair, hz]))
              clear hz
              go_wp2
              go_ret
              exact ⟨ret_bool HF.out.symm, (by repeat (first | (with_reducible exact Below.refl _ _) | (with_reducible assumption) | ((with_reducible refine Below.alloc ?_ ?_ _); rotate_left; (first | omega | (simp <;> omega))) | ((with_reducible refine Below.setCell ?_ ?_ _); rotate_left; (first | omega | (simp <;> omega))) | (with_reducible refine below_drewN ?_ _) | (with_reducible refine Below.drew ?_) | ((with_reducible refine Below.step (by assumption) ?_ ?_); rotate_left; (first | omega | (simp <;> omega)))))⟩
          · have HS2 := Lib.hid (HY.out (by simp [openPair]))
            go_wp2
            go_round
            case rel => exact ⟨k + 1, by omega, by go_num, HS2.out⟩
            case measure => simp [intOf]; omega
        · have hf : validFilm W H s t = true := by rw [HV2.out]; exact zip_whole HS.out (by have := HE.out; simp; omega)
          have HF := Lib.hid hf
          clear hf
          go_wp2
          go_ret
          exact ⟨ret_bool HF.out.symm, (by repeat (first | (with_reducible exact Below.refl _ _) | (with_reducible assumption) | ((with_reducible refine Below.alloc ?_ ?_ _); rotate_left; (first | omega | (simp <;> omega))) | ((with_reducible refine Below.setCell ?_ ?_ _); rotate_left; (first | omega | (simp <;> omega))) | (with_reducible refine below_drewN ?_ _) | (with_reducible refine Below.drew ?_) | ((with_reducible refine Below.step (by assumption) ?_ ?_); rotate_left; (first | omega | (simp <;> omega)))))⟩
    · have hw' : allIn s 0 256 = false := by simpa using hw
      have HF : Hid (validFilm W H s t = false) := HV.out.trans (film_not HE.out hw')
      clear hw
      go_enter Try.func20, Try.ntmps20
      go_wp2_with (first | (go_at_call 31; refine (I_sizeOk _ _ _).mono ?_; rintro e w' ⟨rfl, rfl⟩) | (go_at_call 24; refine (I_allWithin _ _ _ _ _ _ HT.out).mono ?_; rintro e w' ⟨rfl, rfl⟩))
      go_ret
      exact ⟨ret_bool HF.out.symm, (by repeat (first | (with_reducible exact Below.refl _ _) | (with_reducible assumption) | ((with_reducible refine Below.alloc ?_ ?_ _); rotate_left; (first | omega | (simp <;> omega))) | ((with_reducible refine Below.setCell ?_ ?_ _); rotate_left; (first | omega | (simp <;> omega))) | (with_reducible refine below_drewN ?_ _) | (with_reducible refine Below.drew ?_) | ((with_reducible refine Below.step (by assumption) ?_ ?_); rotate_left; (first | omega | (simp <;> omega)))))⟩
  · have HF := Lib.hid (validFilm_n (s := s) (t := t) q9.out)
    clear q9
    go_enter Try.func20, Try.ntmps20
    go_wp2_with (first | (go_at_call 31; refine (I_sizeOk _ _ _).mono ?_; rintro e w' ⟨rfl, rfl⟩) | (go_at_call 24; refine (I_allWithin _ _ _ _ _ _ HT.out).mono ?_; rintro e w' ⟨rfl, rfl⟩))
    go_ret
    exact ⟨ret_bool HF.out.symm, (by repeat (first | (with_reducible exact Below.refl _ _) | (with_reducible assumption) | ((with_reducible refine Below.alloc ?_ ?_ _); rotate_left; (first | omega | (simp <;> omega))) | ((with_reducible refine Below.setCell ?_ ?_ _); rotate_left; (first | omega | (simp <;> omega))) | (with_reducible refine below_drewN ?_ _) | (with_reducible refine Below.drew ?_) | ((with_reducible refine Below.step (by assumption) ?_ ?_); rotate_left; (first | omega | (simp <;> omega)))))⟩
  · have HF := Lib.hid (validFilm_m (s := s) (t := t) q9.out)
    clear q9
    go_enter Try.func20, Try.ntmps20
    go_wp2_with (first | (go_at_call 31; refine (I_sizeOk _ _ _).mono ?_; rintro e w' ⟨rfl, rfl⟩) | (go_at_call 24; refine (I_allWithin _ _ _ _ _ _ HT.out).mono ?_; rintro e w' ⟨rfl, rfl⟩))
    go_ret
    exact ⟨ret_bool HF.out.symm, (by repeat (first | (with_reducible exact Below.refl _ _) | (with_reducible assumption) | ((with_reducible refine Below.alloc ?_ ?_ _); rotate_left; (first | omega | (simp <;> omega))) | ((with_reducible refine Below.setCell ?_ ?_ _); rotate_left; (first | omega | (simp <;> omega))) | (with_reducible refine below_drewN ?_ _) | (with_reducible refine Below.drew ?_) | ((with_reducible refine Below.step (by assumption) ?_ ?_); rotate_left; (first | omega | (simp <;> omega)))))⟩
  all_goals
    have HF := Lib.hid (validFilm_s (s := s) (t := t) q1)
    go_enter Try.func20, Try.ntmps20
    go_wp2_with (first | (go_at_call 31; refine (I_sizeOk _ _ _).mono ?_; rintro e w' ⟨rfl, rfl⟩) | (go_at_call 24; refine (I_allWithin _ _ _ _ _ _ HT.out).mono ?_; rintro e w' ⟨rfl, rfl⟩))
    go_ret
    exact ⟨ret_bool HF.out.symm, (by repeat (first | (with_reducible exact Below.refl _ _) | (with_reducible assumption) | ((with_reducible refine Below.alloc ?_ ?_ _); rotate_left; (first | omega | (simp <;> omega))) | ((with_reducible refine Below.setCell ?_ ?_ _); rotate_left; (first | omega | (simp <;> omega))) | (with_reducible refine below_drewN ?_ _) | (with_reducible refine Below.drew ?_) | ((with_reducible refine Below.step (by assumption) ?_ ?_); rotate_left; (first | omega | (simp <;> omega)))))⟩
def completeF (W H : Int) (s : List Int) (t : List Bool) : Bool := validFilm W H s t && t.all id
theorem all_take {t : List Bool} {k : Nat} (h : (t.take k).all id = true) (hk : k < t.length) (e : t[k] = true) : (t.take (k + 1)).all id = true := by
  rw [List.take_succ_eq_append_getElem hk, List.all_append, h]; simp [e]
theorem all_not {t : List Bool} {k : Nat} (hk : k < t.length) (e : t[k] = false) : t.all id = false := by
  rw [List.all_eq_false]; exact ⟨t[k], List.getElem_mem hk, by simp [e]⟩
def IdxFalse (t : List Bool) (w : World) (e : Ending) (w' : World) : Prop := ∃ n : Int, e = .returned (.int .i64 n) ∧ decide (0 ≤ n) = (!t.all id) ∧ w = w'
set_option maxHeartbeats 1000000 in
theorem G_IndexFalse {B : Option Addr} {d : Nat} {t : List Bool} (w : World) (h' : RS w 1 B t.length d (bools t)) :
    Calls Try.prog 37 #[.slice B t.length d, .bool false] w (IdxFalse t w) := by
  have hn' := h'.len
  unfold maxLen at hn'
  obtain ⟨_, _, hr'⟩ := h'.open_
  have HR' := Lib.hid hr'
  clear h' hr'
  go_enter Try.func37, Try.ntmps37
  go_wp2
  go_loop [5, 8] (fun _ i => ∃ k : Nat, k ≤ t.length ∧ i = .int .i64 k ∧ (t.take k).all id = true) (fun _ i => t.length - (intOf i).toNat)
  case atStart => exact ⟨0, Nat.zero_le _, rfl, rfl⟩
  case round =>
    obtain ⟨k, hk, rfl, hst⟩ := hrel
    have HS := Lib.hid hst
    clear hst
    by_cases hlt : k < t.length
    · obtain ⟨b', o', rfl, hbh', hcell'⟩ := HR'.out (by omega)
      have c2 : w.cell? ⟨b', o' + k, none⟩ = some (.bool t[k]) := by rw [hcell' k (by omega), bools_at hlt]
      have HY : Hid (t[k] = true → (t.take (k + 1)).all id = true) := fun e => all_take HS.out hlt e
      have HN : Hid (t[k] = false → t.all id = false) := fun e => all_not hlt e
      clear hcell'
      generalize t[k] = y at *
      cases y
      · have HF := Lib.hid (HN.out rfl)
        go_wp2
        go_ret
        exact ⟨_, rfl, by rw [HF.out]; simp, rfl⟩
      · have HS2 := Lib.hid (HY.out rfl)
        go_wp2
        go_round
        case rel => exact ⟨k + 1, by omega, by go_num, HS2.out⟩
        case measure => simp [intOf]; omega
    · have HF : Hid (t.all id = true) := by
        have := HS.out
        rwa [List.take_of_length_le (by omega)] at this
      go_wp2
      go_ret
      exact ⟨_, rfl, by rw [HF.out]; rfl, rfl⟩
set_option maxHeartbeats 1000000 in
theorem G_ContainsFalse {B : Option Addr} {d : Nat} {t : List Bool} (w : World) (h' : RS w 1 B t.length d (bools t)) :
    Calls Try.prog 27 #[.slice B t.length d, .bool false] w fun e w' => e = .returned (.bool (!t.all id)) ∧ w = w' := by
  go_enter Try.func27, Try.ntmps27
  go_wp2_with fail
  refine (G_IndexFalse _ h').mono ?_
  rintro e w' ⟨n, rfl, hd, rfl⟩
  have HD := Lib.hid hd
  clear hd
  go_wp2
  go_ret
  exact ⟨ret_bool HD.out, rfl⟩
set_option maxHeartbeats 1000000 in
theorem I_IsComplete {W H : Int} {A B : Option Addr} {c d : Nat} {s : List Int} {t : List Bool} (w : World) (h : RS w 1 A s.length c (ints s)) (h' : RS w 1 B t.length d (bools t)) :
    Calls Try.prog 11 #[vFilm W H (.slice A s.length c) (.slice B t.length d)] w fun e w' => e = .returned (.bool (completeF W H s t)) ∧ Below w.heap.size w w' := by
  have HA := Lib.hid (RS.alloc h (.cells #[.int .i64 W, .int .i64 H, .slice A s.length c, .slice B t.length d] 32))
  have HB := Lib.hid (RS.alloc h' (.cells #[.int .i64 W, .int .i64 H, .slice A s.length c, .slice B t.length d] 32))
  clear h h'
  by_cases hv : validFilm W H s t = true
  · have HF : Hid (completeF W H s t = t.all id) := by show _ = _; unfold completeF; rw [hv, Bool.true_and]
    go_enter Try.func11, Try.ntmps11
    go_wp2_with fail
    refine (I_IsValidFilm _ HA.out HB.out).mono ?_
    rintro e w' ⟨rfl, hb⟩; have hz := hb.size; (try simp at hz); have c0 := fun o => hb.cell (p := ⟨w.heap.size, o, none⟩) (by first | omega | (simp <;> omega)); have f0 := fun o => hb.frozen (p := ⟨w.heap.size, o, none⟩) (by first | omega | (simp <;> omega)); have z0 : w.heap.size < w'.heap.size := (by omega)
    have HB2 := Lib.hid (RS.step hb HB.out)
    go_wp2_with fail
    refine (G_ContainsFalse _ HB2.out).mono ?_
    rintro e w' ⟨rfl, rfl⟩
    go_wp2
    go_ret
    exact ⟨ret_bool (by rw [HF.out]; first | done | simp), (by repeat (first | (with_reducible exact Below.refl _ _) | (with_reducible assumption) | ((with_reducible refine Below.alloc ?_ ?_ _); rotate_left; (first | omega | (simp <;> omega))) | ((with_reducible refine Below.setCell ?_ ?_ _); rotate_left; (first | omega | (simp <;> omega))) | (with_reducible refine below_drewN ?_ _) | (with_reducible refine Below.drew ?_) | ((with_reducible refine Below.step (by assumption) ?_ ?_); rotate_left; (first | omega | (simp <;> omega)))))⟩
  · have hv' : validFilm W H s t = false := by simpa using hv
    have HF : Hid (completeF W H s t = false) := by show _ = _; unfold completeF; rw [hv', Bool.false_and]
    clear hv
    go_enter Try.func11, Try.ntmps11
    go_wp2_with fail
    refine (I_IsValidFilm _ HA.out HB.out).mono ?_
    rintro e w' ⟨rfl, hb⟩; have hz := hb.size; (try simp at hz); have c0 := fun o => hb.cell (p := ⟨w.heap.size, o, none⟩) (by first | omega | (simp <;> omega)); have f0 := fun o => hb.frozen (p := ⟨w.heap.size, o, none⟩) (by first | omega | (simp <;> omega)); have z0 : w.heap.size < w'.heap.size := (by omega)
    go_wp2
    go_ret
    exact ⟨ret_bool HF.out.symm, (by repeat (first | (with_reducible exact Below.refl _ _) | (with_reducible assumption) | ((with_reducible refine Below.alloc ?_ ?_ _); rotate_left; (first | omega | (simp <;> omega))) | ((with_reducible refine Below.setCell ?_ ?_ _); rotate_left; (first | omega | (simp <;> omega))) | (with_reducible refine below_drewN ?_ _) | (with_reducible refine Below.drew ?_) | ((with_reducible refine Below.step (by assumption) ?_ ?_); rotate_left; (first | omega | (simp <;> omega)))))⟩
end Go.Proofs.Ythpanpedoeghoaa
