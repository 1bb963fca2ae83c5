/- SimplifyDeep of the reference and of the program. -/
import Derived.Test.YtaeajeclbcodeaaDeepV
import Derived.Test.YtaeajeclbcodeaaMade
import Derived.Deep.RegionHeld3
namespace Go.Proofs.Ytaeajeclbcodeaa
open Go.RowKit
set_option linter.unusedVariables false
theorem validDeep_get {l : List EDeepStep} (h : validDeep l = true) {k : Nat} (hk : k < l.length) : (-1000000 ≤ l[k].1 ∧ l[k].1 ≤ 1000000) ∧ 0 ≤ l[k].2 ∧ l[k].2 ≤ 65535 := by
  have hs : stepB l k = true := by
    cases hb : stepB l k
    · rw [validDeep_false hk hb] at h; cases h
    · rfl
  have hi : inD l[k] = true := by
    cases hd : inD l[k]
    · rw [stepB_in hk hd] at hs; cases hs
    · rfl
  simp only [inD, Bool.and_eq_true] at hi
  exact ⟨inB_true hi.1, inB_true hi.2⟩
theorem validDeep_len {l : List EDeepStep} (h : validDeep l = true) : l.length ≤ 64 := by
  unfold validDeep at h
  simp only [Bool.and_eq_true, decide_eq_true_eq] at h
  exact h.1
/-- The weight behind the last step. -/
def lastWt (o : List EDeepStep) : Int := match o.getLast? with | none => 65536 | some x => x.2
theorem lastWt_snoc (o : List EDeepStep) (x : EDeepStep) : lastWt (o ++ [x]) = x.2 := by simp [lastWt]
theorem lastWt_at {o : List EDeepStep} (h : 0 < o.length) : lastWt o = (o[o.length - 1]'(by omega)).2 := by
  unfold lastWt
  rw [List.getLast?_eq_getElem?, List.getElem?_eq_getElem (by omega)]
theorem lastWt_nil {o : List EDeepStep} (h : o.length = 0) : lastWt o = 65536 := by
  have := List.eq_nil_of_length_eq_zero h; subst this; rfl
def simpStep (t : Int) (o : List EDeepStep) (x : EDeepStep) : List EDeepStep := if t < lastWt o - x.2 then o ++ [x] else o
def simpTo (t : Int) (l : List EDeepStep) (k : Nat) : List EDeepStep := (l.take k).foldl (simpStep t) []
theorem simpTo_succ {t : Int} {l : List EDeepStep} {k : Nat} (h : k < l.length) : simpTo t l (k + 1) = simpStep t (simpTo t l k) l[k] := by
  unfold simpTo; rw [List.take_succ_eq_append_getElem h, List.foldl_append]; rfl
theorem simpTo_rng {t : Int} {l : List EDeepStep} (hv : validDeep l = true) : ∀ k, k ≤ l.length → (simpTo t l k).length ≤ k ∧ 0 ≤ lastWt (simpTo t l k) ∧ lastWt (simpTo t l k) ≤ 65536
  | 0, _ => by simp [simpTo, lastWt]
  | k + 1, hk => by
    have ih := simpTo_rng (t := t) hv k (by omega)
    have hx := validDeep_get hv (k := k) (by omega)
    rw [simpTo_succ (by omega)]
    have hx2 := hx.2
    clear hx
    unfold simpStep
    split
    · rw [lastWt_snoc, List.length_append]
      exact ⟨by simp; omega, hx2.1, by omega⟩
    · exact ⟨by omega, ih.2⟩
def simpF (l : List EDeepStep) (t : Int) : List EDeepStep := if validDeep l && inB t 0 65536 then simpTo t l l.length else []
theorem simpF_no {l : List EDeepStep} {t : Int} (h : (validDeep l && inB t 0 65536) = false) : simpF l t = [] := by unfold simpF; rw [h]; rfl
theorem simpF_yes {l : List EDeepStep} {t : Int} (h : (validDeep l && inB t 0 65536) = true) : simpF l t = simpTo t l l.length := by unfold simpF; rw [h]; rfl
theorem rDeepStep_one (l : List EDeepStep) : ∀ u ∈ rDeepStep l, u.oneCell' = true := by
  intro u hu
  obtain ⟨x, _, hx⟩ := List.mem_flatMap.1 hu
  simp only [cDeepStep, List.mem_cons, List.not_mem_nil, or_false] at hx
  rcases hx with rfl | rfl <;> rfl
theorem rDeepStep_snoc (l : List EDeepStep) (x : EDeepStep) : rDeepStep l ++ rDeepStep [x] = rDeepStep (l ++ [x]) := by simp [rDeepStep, rowOf]
theorem T.infoDeepStep : (Try.prog.info? 61).map (fun i => (i.zero, i.size, i.bytes)) = some (some (.agg #[.int .i64 0, .int .i64 0]), 2, 16) := by kernel_rfl
set_option maxHeartbeats 1000000 in
theorem I_lastWeight {A : Option Addr} {n c : Nat} {o : List EDeepStep} (w : World) (hn : n = o.length) (h : RS w 2 A n c (rDeepStep o)) :
    Calls Try.prog 69 #[.slice A n c] w fun e w' => e = .returned (.int .i64 (lastWt o)) ∧ w = w' := by
  have hl := h.len
  unfold maxLen at hl
  subst hn
  obtain ⟨_, _, hr⟩ := h.open_
  clear h
  rcases Nat.eq_zero_or_pos o.length with h0 | h0
  · have HE := Lib.hid (lastWt_nil h0)
    have hz : ((o.length : Int) == 0) = true := by simp [h0]
    clear hr h0
    go_enter Try.func69, Try.ntmps69
    go_wp2
    go_ret
    exact ⟨ret_int HE.out.symm, rfl⟩
  · obtain ⟨b, off, rfl, hb, hcell⟩ := hr h0
    have HE := Lib.hid (lastWt_at h0)
    have hz : ((o.length : Int) == 0) = false := by rw [beq_eq_false_iff_ne]; omega
    obtain ⟨_, q1⟩ := rDeepStep_at (l := o) (k := o.length - 1) (by omega)
    have d1 : w.cell? ⟨b, off + (o.length - 1) * 2 + 1, none⟩ = some (.int .i64 (o[o.length - 1]'(by omega)).2) := by rw [show off + (o.length - 1) * 2 + 1 = off + ((o.length - 1) * 2 + 1) by omega, hcell _ (by omega), q1]
    have hx : ((o.length : Int) - 1).toNat = o.length - 1 := by omega
    clear hcell q1
    go_enter Try.func69, Try.ntmps69
    go_wp2
    go_ret
    exact ⟨ret_int HE.out.symm, rfl⟩
end Go.Proofs.Ytaeajeclbcodeaa
