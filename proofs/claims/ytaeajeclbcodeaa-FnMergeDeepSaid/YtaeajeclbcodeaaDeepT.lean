/- Transmittance of the reference and of the program. -/
import Derived.Test.YtaeajeclbcodeaaDeepV
namespace Go.Proofs.Ytaeajeclbcodeaa
open Go.RowKit
set_option linter.unusedVariables false
/-- The weight of the last step whose depth meets p, from w on. -/
def lastW (p : Int → Bool) (l : List EDeepStep) : Int := l.foldl (fun w x => if p x.1 then x.2 else w) 65536
theorem lastW_take (p : Int → Bool) {l : List EDeepStep} {k : Nat} (h : k < l.length) : lastW p (l.take (k + 1)) = if p l[k].1 then l[k].2 else lastW p (l.take k) := by
  unfold lastW
  rw [List.take_succ_eq_append_getElem h, List.foldl_append]
  rfl
def below (d : Int) : Int → Bool := fun x => decide (x < d)
def transF (l : List EDeepStep) (d : Int) : Int := if validDeep l then lastW (below d) l else 0
set_option maxHeartbeats 1000000 in
theorem S_Transmittance {A : Option Addr} {c : Nat} {l : List EDeepStep} {d : Int} (w : World) (h : RS w 2 A l.length c (rDeepStep l)) :
    Calls Try.prog 34 #[.slice A l.length c, .int .i64 d] w fun e w' => e = .returned (.int .i64 (transF l d)) ∧ Below w.heap.size w w' := by
  obtain ⟨hn, hc, hr⟩ := h.open_
  unfold maxLen at hc
  have HR := Lib.hid hr
  have HH := Lib.hid h
  clear hr h
  by_cases hv : validDeep l = true
  case neg =>
    have hv' : validDeep l = false := by simpa using hv
    have HF : Hid (transF l d = 0) := by unfold Hid transF; rw [if_neg hv]
    clear hv
    go_enter Try.func34, Try.ntmps34
    go_wp2_with (go_at_call 33; refine (S_IsValidDeep _ HH.out).mono ?_; rintro e w' ⟨rfl, hb⟩; have hz := hb.size; (try simp at hz))
    go_ret
    exact ⟨ret_int HF.out.symm, (by repeat (first | (with_reducible exact Below.refl _ _) | (with_reducible assumption) | ((with_reducible refine Below.alloc ?_ ?_ _); rotate_left; (first | omega | (simp <;> omega))) | ((with_reducible refine Below.setCell ?_ ?_ _); rotate_left; (first | omega | (simp <;> omega))) | (with_reducible refine below_drewN ?_ _) | (with_reducible refine Below.drew ?_) | ((with_reducible refine Below.step (by assumption) ?_ ?_); rotate_left; (first | omega | (simp <;> omega)))))⟩
  have HF : Hid (transF l d = lastW (below d) l) := by unfold Hid transF; rw [if_pos hv]
  go_enter Try.func34, Try.ntmps34
  go_wp2_with fail
  refine (S_IsValidDeep _ HH.out).mono ?_
  rintro e w' ⟨rfl, hb⟩
  go_wp2
  go_loopw [5, 7, 13] (fun v _ i wr => ∃ k : Nat, k ≤ l.length ∧ i = .int .i64 k ∧ v = .int .i64 (lastW (below d) (l.take k)) ∧ Below w.heap.size w wr) (fun _ _ i _ => l.length - (intOf i).toNat)
  case atStart => exact ⟨0, Nat.zero_le _, rfl, rfl, hb⟩
  case round =>
    obtain ⟨k, hk, rfl, rfl, hbr⟩ := hrel
    have HB := Lib.hid hbr
    clear hb hbr
    by_cases hlt : k < l.length
    · obtain ⟨b, o, rfl, hbh, hcell⟩ := HR.out (by omega)
      obtain ⟨q0, q1⟩ := rDeepStep_at (l := l) hlt
      have d0 : wr.cell? ⟨b, o + k * 2, none⟩ = some (.int .i64 l[k].1) := by rw [(bcell HB.out).1 _ _ (by omega), hcell _ (by omega), q0]
      have d1 : wr.cell? ⟨b, o + k * 2 + 1, none⟩ = some (.int .i64 l[k].2) := by rw [(bcell HB.out).1 _ _ (by omega), show o + k * 2 + 1 = o + (k * 2 + 1) by omega, hcell _ (by omega), q1]
      have HL := Lib.hid (lastW_take (below d) hlt)
      clear q0 q1 hcell
      generalize lastW (below d) (l.take k) = V at *
      by_cases hd : l[k].1 < d
      · go_wp2
        go_roundw
        case rel => exact ⟨k + 1, by omega, by go_num, by rw [HL.out]; simp [below, hd], HB.out.alloc HB.out.size _⟩
        case measure => simp [intOf]; omega
      · go_wp2
        go_roundw
        case rel => exact ⟨k + 1, by omega, by go_num, by rw [HL.out]; simp [below, hd], HB.out.alloc HB.out.size _⟩
        case measure => simp [intOf]; omega
    · go_wp2
      go_ret
      obtain rfl : k = l.length := by omega
      exact ⟨ret_int (by rw [HF.out, List.take_of_length_le (Nat.le_refl _)]), HB.out⟩
set_option maxHeartbeats 400000 in
theorem I_trans1 {x d : Int} {a : Addr} (w : World) (h : w.cell? a = some (.int .i64 d)) :
    Calls Try.prog 52 #[.int .i64 x, .pointer (some a)] w fun e w' => e = .returned (.bool (below d x)) ∧ w = w' := by
  go_enter Try.func52, Try.ntmps52
  go_wp2
  go_ret
  exact ⟨rfl, rfl⟩
set_option maxHeartbeats 1000000 in
theorem I_transmittance {A : Option Addr} {c : Nat} {l : List EDeepStep} {d : Int} {g : Nat} (w : World) (h : RS w 2 A l.length c (rDeepStep l)) (hg : w.cell? ⟨g, 0, none⟩ = some (.int .i64 d)) :
    Calls Try.prog 51 #[.slice A l.length c, .func (.func 52) #[] #[.pointer (some ⟨g, 0, none⟩)]] w fun e w' => e = .returned (.int .i64 (lastW (below d) l)) ∧ Below w.heap.size w w' := by
  obtain ⟨hn, hc, hr⟩ := h.open_
  unfold maxLen at hc
  have HR := Lib.hid hr
  have HG := Lib.hid hg
  have hgl : g < w.heap.size := block_lt_of_cell hg
  have hb := Below.refl w.heap.size w
  clear hr h hg
  go_enter Try.func51, Try.ntmps51
  go_wp2
  go_loopw [5, 7, 10] (fun v _ i wr => ∃ k : Nat, k ≤ l.length ∧ i = .int .i64 k ∧ v = .int .i64 (lastW (below d) (l.take k)) ∧ Below w.heap.size w wr) (fun _ _ i _ => l.length - (intOf i).toNat)
  case atStart => exact ⟨0, Nat.zero_le _, rfl, rfl, hb⟩
  case round =>
    obtain ⟨k, hk, rfl, rfl, hbr⟩ := hrel
    have HB := Lib.hid hbr
    clear hb hbr
    by_cases hlt : k < l.length
    · obtain ⟨b, o, rfl, hbh, hcell⟩ := HR.out (by omega)
      obtain ⟨q0, q1⟩ := rDeepStep_at (l := l) hlt
      have d0 : wr.cell? ⟨b, o + k * 2, none⟩ = some (.int .i64 l[k].1) := by rw [(bcell HB.out).1 _ _ (by omega), hcell _ (by omega), q0]
      have d1 : wr.cell? ⟨b, o + k * 2 + 1, none⟩ = some (.int .i64 l[k].2) := by rw [(bcell HB.out).1 _ _ (by omega), show o + k * 2 + 1 = o + (k * 2 + 1) by omega, hcell _ (by omega), q1]
      have HL := Lib.hid (lastW_take (below d) hlt)
      have hc1 : ∀ o, (wr.alloc o).cell? ⟨g, 0, none⟩ = some (.int .i64 d) := fun o => by rw [World.cell?_alloc_lt _ _ _ (Nat.lt_of_lt_of_le hgl HB.out.size), (bcell HB.out).1 _ _ hgl, HG.out]
      clear q0 q1 hcell
      generalize lastW (below d) (l.take k) = V at *
      by_cases hd : below d l[k].1 = true
      · go_wp2_with (go_at_call 52; refine (I_trans1 _ (hc1 _)).mono ?_; rintro e w' ⟨rfl, rfl⟩)
        go_roundw
        case rel => exact ⟨k + 1, by omega, by go_num, by rw [HL.out]; simp [hd], HB.out.alloc HB.out.size _⟩
        case measure => simp [intOf]; omega
      · have hd' : below d l[k].1 = false := by simpa using hd
        clear hd
        go_wp2_with (go_at_call 52; refine (I_trans1 _ (hc1 _)).mono ?_; rintro e w' ⟨rfl, rfl⟩)
        go_roundw
        case rel => exact ⟨k + 1, by omega, by go_num, by rw [HL.out]; simp [hd'], HB.out.alloc HB.out.size _⟩
        case measure => simp [intOf]; omega
    · go_wp2
      go_ret
      obtain rfl : k = l.length := by omega
      exact ⟨ret_int (by rw [List.take_of_length_le (Nat.le_refl _)]), HB.out⟩
set_option maxHeartbeats 1000000 in
theorem I_Transmittance {A : Option Addr} {c : Nat} {l : List EDeepStep} {d : Int} (w : World) (h : RS w 2 A l.length c (rDeepStep l)) :
    Calls Try.prog 21 #[.slice A l.length c, .int .i64 d] w fun e w' => e = .returned (.int .i64 (transF l d)) ∧ Below w.heap.size w w' := by
  have hmf : ∀ (fn : Fn) (first cap : Array Value) (w : World), (Instr.makeFunc fn first cap).run Try.prog w = .ok (.func fn first cap) w := fun _ _ _ _ => rfl
  by_cases hv : validDeep l = true
  case neg =>
    have hv' : validDeep l = false := by simpa using hv
    have HF : Hid (transF l d = 0) := by unfold Hid transF; rw [if_neg hv]
    clear hv
    go_enter Try.func21, Try.ntmps21
    go_wp2_with (go_at_call 22; refine (I_IsValidDeep _ (by first | (with_reducible assumption) | ((with_reducible refine RS.step ?_ (by assumption)); repeat (first | (with_reducible exact Below.refl _ _) | (with_reducible assumption) | ((with_reducible refine Below.alloc ?_ ?_ _); rotate_left; (first | omega | (simp <;> omega))) | ((with_reducible refine Below.setCell ?_ ?_ _); rotate_left; (first | omega | (simp <;> omega))) | (with_reducible refine below_drewN ?_ _) | (with_reducible refine Below.drew ?_) | ((with_reducible refine Below.step (by assumption) ?_ ?_); rotate_left; (first | omega | (simp <;> omega))))))).mono ?_; rintro e w' ⟨rfl, hb⟩; have hz := hb.size; (try simp at hz); have c0 := fun o => hb.cell (p := ⟨w.heap.size, o, none⟩) (by first | omega | (simp <;> omega)); have f0 := fun o => hb.frozen (p := ⟨w.heap.size, o, none⟩) (by first | omega | (simp <;> omega)); have z0 : w.heap.size < w'.heap.size := (by omega))
    go_ret
    exact ⟨ret_int HF.out.symm, (by repeat (first | (with_reducible exact Below.refl _ _) | (with_reducible assumption) | ((with_reducible refine Below.alloc ?_ ?_ _); rotate_left; (first | omega | (simp <;> omega))) | ((with_reducible refine Below.setCell ?_ ?_ _); rotate_left; (first | omega | (simp <;> omega))) | (with_reducible refine below_drewN ?_ _) | (with_reducible refine Below.drew ?_) | ((with_reducible refine Below.step (by assumption) ?_ ?_); rotate_left; (first | omega | (simp <;> omega)))))⟩
  have HF : Hid (transF l d = lastW (below d) l) := by unfold Hid transF; rw [if_pos hv]
  go_enter Try.func21, Try.ntmps21
  go_wp2_with fail
  refine (I_IsValidDeep _ (by first | (with_reducible assumption) | ((with_reducible refine RS.step ?_ (by assumption)); repeat (first | (with_reducible exact Below.refl _ _) | (with_reducible assumption) | ((with_reducible refine Below.alloc ?_ ?_ _); rotate_left; (first | omega | (simp <;> omega))) | ((with_reducible refine Below.setCell ?_ ?_ _); rotate_left; (first | omega | (simp <;> omega))) | (with_reducible refine below_drewN ?_ _) | (with_reducible refine Below.drew ?_) | ((with_reducible refine Below.step (by assumption) ?_ ?_); rotate_left; (first | omega | (simp <;> omega))))))).mono ?_
  rintro e w' ⟨rfl, hb⟩; have hz := hb.size; (try simp at hz); have c0 := fun o => hb.cell (p := ⟨w.heap.size, o, none⟩) (by first | omega | (simp <;> omega)); have f0 := fun o => hb.frozen (p := ⟨w.heap.size, o, none⟩) (by first | omega | (simp <;> omega)); have z0 : w.heap.size < w'.heap.size := (by omega)
  go_wp2_with fail
  refine (I_transmittance (d := d) _ (by first | (with_reducible assumption) | ((with_reducible refine RS.step ?_ (by assumption)); repeat (first | (with_reducible exact Below.refl _ _) | (with_reducible assumption) | ((with_reducible refine Below.alloc ?_ ?_ _); rotate_left; (first | omega | (simp <;> omega))) | ((with_reducible refine Below.setCell ?_ ?_ _); rotate_left; (first | omega | (simp <;> omega))) | (with_reducible refine below_drewN ?_ _) | (with_reducible refine Below.drew ?_) | ((with_reducible refine Below.step (by assumption) ?_ ?_); rotate_left; (first | omega | (simp <;> omega)))))) (by rw [c0]; simp [go_sem])).mono ?_
  rintro e w' ⟨rfl, hb⟩; have hz := hb.size; (try simp at hz); have c0 := fun o => hb.cell (p := ⟨w.heap.size, o, none⟩) (by first | omega | (simp <;> omega)); have f0 := fun o => hb.frozen (p := ⟨w.heap.size, o, none⟩) (by first | omega | (simp <;> omega)); have z0 : w.heap.size < w'.heap.size := (by omega)
  go_wp2
  go_ret
  exact ⟨ret_int HF.out.symm, (by repeat (first | (with_reducible exact Below.refl _ _) | (with_reducible assumption) | ((with_reducible refine Below.alloc ?_ ?_ _); rotate_left; (first | omega | (simp <;> omega))) | ((with_reducible refine Below.setCell ?_ ?_ _); rotate_left; (first | omega | (simp <;> omega))) | (with_reducible refine below_drewN ?_ _) | (with_reducible refine Below.drew ?_) | ((with_reducible refine Below.step (by assumption) ?_ ?_); rotate_left; (first | omega | (simp <;> omega)))))⟩
end Go.Proofs.Ytaeajeclbcodeaa
