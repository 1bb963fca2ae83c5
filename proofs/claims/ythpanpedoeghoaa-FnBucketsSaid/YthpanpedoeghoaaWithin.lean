/- allWithin: every element of a slice of ints lies in a range. -/
import Derived.Test.YthpanpedoeghoaaPure
import Derived.Test.YthpanpedoeghoaaInts
set_option linter.unusedVariables false
set_option linter.unusedSimpArgs false
set_option linter.unnecessarySimpa false
namespace Go.Proofs.Ythpanpedoeghoaa
open Go.RowKit
set_option linter.unusedVariables false
def allIn (l : List Int) (lo hi : Int) : Bool := l.all fun x => inB x lo hi
theorem allIn_take {l : List Int} {lo hi : Int} {k : Nat} (h : allIn (l.take k) lo hi = true) (hk : k < l.length) (e : inB l[k] lo hi = true) : allIn (l.take (k + 1)) lo hi = true := by
  unfold allIn at *
  rw [List.take_succ_eq_append_getElem hk, List.all_append, h]
  simp [e]
theorem allIn_false {l : List Int} {lo hi : Int} {k : Nat} (hk : k < l.length) (e : inB l[k] lo hi = false) : allIn l lo hi = false := by
  unfold allIn
  rw [List.all_eq_false]
  exact ⟨l[k], List.getElem_mem hk, by simp [e]⟩
theorem allIn_get {l : List Int} {lo hi : Int} (h : allIn l lo hi = true) {k : Nat} (hk : k < l.length) : lo ≤ l[k] ∧ l[k] ≤ hi := by
  unfold allIn at h
  rw [List.all_eq_true] at h
  exact inB_true (h _ (List.getElem_mem hk))
set_option maxHeartbeats 400000 in
theorem I_allWithin (A : Option Addr) (c : Nat) (l : List Int) (lo hi : Int) (w : World) (h : RS w 1 A l.length c (ints l)) :
    Calls Try.prog 24 #[.slice A l.length c, .int .i64 lo, .int .i64 hi] w fun e w' => e = .returned (.bool (allIn l lo hi)) ∧ w = w' := by
  obtain ⟨hn, hc, hr⟩ := h.open_
  unfold maxLen at hc
  clear h
  have HR := Lib.hid hr
  clear hr
  go_enter Try.func24, Try.ntmps24
  go_wp2
  go_loop [8, 11] (fun _ i => ∃ k : Nat, k ≤ l.length ∧ i = .int .i64 k ∧ allIn (l.take k) lo hi = true) (fun _ i => l.length - (intOf i).toNat)
  case atStart => exact ⟨0, Nat.zero_le _, rfl, rfl⟩
  case round =>
    obtain ⟨k, hk, rfl, ht⟩ := hrel
    have HT := Lib.hid ht
    clear ht
    by_cases hlt : k < l.length
    · obtain ⟨b, o, rfl, hbh, hcell⟩ := HR.out (by omega)
      have c1 : w.cell? ⟨b, o + k, none⟩ = some (.int .i64 l[k]) := by rw [hcell k (by omega), ints_at hlt]
      clear hcell
      by_cases hin : inB l[k] lo hi = true
      · go_wp2_with (go_at_call 15; refine (I_within _ _ _ _).mono ?_; rintro e w' ⟨rfl, rfl⟩)
        go_round
        case rel => exact ⟨k + 1, by omega, by go_num, allIn_take HT.out hlt hin⟩
        case measure => simp [intOf]; omega
      · have hin' : inB l[k] lo hi = false := by simpa using hin
        go_wp2_with (go_at_call 15; refine (I_within _ _ _ _).mono ?_; rintro e w' ⟨rfl, rfl⟩)
        go_ret
        exact ⟨ret_bool (allIn_false hlt hin').symm, rfl⟩
    · go_wp2
      go_ret
      obtain rfl : k = l.length := by omega
      exact ⟨ret_bool (by have := HT.out; rw [List.take_of_length_le (Nat.le_refl _)] at this; exact this.symm), rfl⟩
theorem quiet_same {P : Program} {f : FuncId} {args : Array Value} {w : World} {n : Nat} {v : Value}
    (h : Calls P f args (w.drewN n) fun e w' => e = .returned v ∧ w.drewN n = w') : Calls P f args (w.drewN n) fun e w'' => e = .returned v ∧ ∃ m, w'' = w.drewN m :=
  h.mono fun _ _ ⟨he, hm⟩ => ⟨he, n, hm.symm⟩
theorem quiet_same0 {P : Program} {f : FuncId} {args : Array Value} {w : World} {v : Value}
    (h : Calls P f args w fun e w' => e = .returned v ∧ w = w') : Calls P f args w fun e w'' => e = .returned v ∧ ∃ m, w'' = w.drewN m :=
  h.mono fun _ _ ⟨he, hm⟩ => ⟨he, 0, hm.symm⟩
/-- The side of a texture. -/
def sideF (log : Int) : Int := if log = 0 then 1 else if log = 1 then 2 else if log = 2 then 4 else if log = 3 then 8 else 16
theorem log_cases {log : Int} (h : inB log 0 4 = true) : log = 0 ∨ log = 1 ∨ log = 2 ∨ log = 3 ∨ log = 4 := by have := inB_true h; omega
def validTex (log : Int) (l : List Int) : Bool := inB log 0 4 && (decide ((l.length : Int) = sideF log * sideF log) && allIn l 0 256)
end Go.Proofs.Ythpanpedoeghoaa
