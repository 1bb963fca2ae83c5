/- The laws' own helpers on slices of ints: szIntS, toIntS, eqIntS; and slices.Equal at ints. -/
import Derived.Test.YtnlbojckobgjpaaDoorRows
import Derived.Test.YtnlbojckobgjpaaDoorMem
import Derived.BigQuiet
import Derived.Deep.QuietTactic
namespace Go.Proofs.YtnlbojckobgjpaaDoor
open Go.RowKit
set_option linter.unusedVariables false
def szF (left : Int) (n : Nat) : Int := if left < n then -1 else left - n
theorem szF_big {left : Int} {n : Nat} (h : left < n) : szF left n = -1 := by unfold szF; rw [if_pos h]
theorem szF_small {left : Int} {n : Nat} (h : n ≤ left) : 0 ≤ szF left n ∧ szF left n ≤ left := by unfold szF; rw [if_neg (by omega)]; omega
theorem szF_neg {left : Int} {n : Nat} (h : szF left n < 0) : left < n := by
  rcases Int.lt_or_le left n with h1 | h1
  · exact h1
  · have := (szF_small h1).1; omega
def SameTo (l m : List Int) (k : Nat) : Prop := l.take k = m.take k
theorem SameTo.succ {l m : List Int} {k : Nat} (h : SameTo l m k) (hl : k < l.length) (hm : k < m.length) (e : l[k] = m[k]) : SameTo l m (k + 1) := by
  unfold SameTo at *
  rw [List.take_succ_eq_append_getElem hl, List.take_succ_eq_append_getElem hm, h, e]
theorem SameTo.whole {l m : List Int} (h : SameTo l m l.length) (hlen : l.length = m.length) : l = m := by
  unfold SameTo at h
  rwa [List.take_of_length_le (Nat.le_refl _), hlen, List.take_of_length_le (Nat.le_refl _)] at h
theorem ints_at {l : List Int} {k : Nat} (h : k < l.length) : (ints l)[k]? = some (.int .i64 l[k]) := by simp [h]
set_option maxHeartbeats 400000 in
theorem L_eqIntS (A A' : Option Addr) (c c' : Nat) (l m : List Int) (w : World) (h : RS w 1 A l.length c (ints l)) (h' : RS w 1 A' m.length c' (ints m)) :
    Calls Tryd.prog 52 #[.slice A l.length c, .slice A' m.length c'] w fun e w' => e = .returned (.bool (decide (l = m))) ∧ Below w.heap.size w w' := by
  obtain ⟨hn, hc, hr⟩ := h.open_
  obtain ⟨hn', hc', hr'⟩ := h'.open_
  unfold maxLen at hc hc'
  clear h h'
  by_cases hlen : l.length = m.length
  case neg =>
    have e1 : decide (l = m) = false := by simp; intro e; exact hlen (by rw [e])
    have e2 : ((l.length : Int) != (m.length : Int)) = true := by simp; omega
    have HE := Lib.hid e1
    clear e1 hr hr'
    go_enter Tryd.func52, Tryd.ntmps52
    go_wp2
    go_ret
    exact ⟨ret_bool HE.out.symm, Below.refl _ _⟩
  case pos =>
    have e2 : ((l.length : Int) != (m.length : Int)) = false := by simp; omega
    have HL := Lib.hid hlen
    have HR := Lib.hid hr
    have HR' := Lib.hid hr'
    have hB0 := Below.refl w.heap.size w
    clear hlen hr hr'
    obtain ⟨w0, hw0⟩ : ∃ w0, w0 = w := ⟨_, rfl⟩
    have HW := Lib.hid hw0
    clear hw0
    go_enter Tryd.func52, Tryd.ntmps52
    go_wp2
    go_loopw [5] (fun i wr => ∃ k : Nat, k ≤ l.length ∧ i = .int .i64 k ∧ SameTo l m k ∧ Below w.heap.size w wr) (fun i _ => l.length - (intOf i).toNat)
    case atStart => exact ⟨0, Nat.zero_le _, rfl, rfl, hB0⟩
    case round =>
      obtain ⟨k, hk, rfl, hst, hb⟩ := hrel
      have HB := Lib.hid hb
      clear hb hB0
      by_cases hlt : k < l.length
      · have hltm : k < m.length := by have := HL.out; omega
        obtain ⟨b, o, rfl, hbh, hcell⟩ := HR.out (by omega)
        obtain ⟨b', o', rfl, hbh', hcell'⟩ := HR'.out (by omega)
        have c1 : wr.cell? ⟨b, o + k, none⟩ = some (.int .i64 l[k]) := by
          rw [(bcell HB.out).1 _ _ (by omega), hcell k (by omega), ints_at hlt]
        have c2 : wr.cell? ⟨b', o' + k, none⟩ = some (.int .i64 m[k]) := by
          rw [(bcell HB.out).1 _ _ (by omega), hcell' k (by omega), ints_at hltm]
        clear hcell hcell'
        have b0 : (0 : Int) ≤ k := by omega
        have b1 : (k : Int) < l.length := by omega
        have b2 : (k : Int) < m.length := by omega
        by_cases he : l[k] = m[k]
        · have ht : (l[k] != m[k]) = false := by simp [he]
          have HE := Lib.hid he
          clear he
          go_wp2
          go_quiet (fail)
          go_wp2
          go_roundw
          case rel => exact ⟨k + 1, by omega, by go_num, hst.succ hlt hltm HE.out, below_drewN HB.out _⟩
          case measure => simp [intOf]; omega
        · have ht : (l[k] != m[k]) = true := by simp [he]
          have hf : decide (l = m) = false := by simp; intro e; subst e; exact he rfl
          have HF := Lib.hid hf
          clear he hf
          go_wp2
          go_quiet (fail)
          go_wp2
          go_ret
          exact ⟨ret_bool HF.out.symm, below_drewN HB.out _⟩
      · have hf : decide (l = m) = true := by
          simp
          obtain rfl : k = l.length := by omega
          exact hst.whole HL.out
        have HF := Lib.hid hf
        clear hf
        go_wp2
        go_ret
        exact ⟨ret_bool HF.out.symm, HB.out⟩
theorem T.infoInt : (Tryd.prog.info? 3).map (fun i => (i.zero, i.size, i.bytes)) = some (some (.int .i64 0), 1, 8) := by kernel_rfl
def Filled (l : List Int) (cs : List Value) (k : Nat) : Prop := cs.length = l.length ∧ ∀ j, j < k → cs[j]? = (ints l)[j]?
theorem Filled.succ {l : List Int} {cs : List Value} {k : Nat} (h : Filled l cs k) (hk : k < l.length) : Filled l (cs.set k (.int .i64 l[k])) (k + 1) := by
  refine ⟨by rw [List.length_set]; exact h.1, fun j hj => ?_⟩
  by_cases e : k = j
  · subst e; rw [List.getElem?_set_self (by rw [h.1]; exact hk), ints_at hk]
  · rw [List.getElem?_set_ne e]; exact h.2 j (by omega)
def OutInts (l : List Int) (w : World) (e : Ending) (w' : World) : Prop :=
  e = .returned (sl w.heap.size l.length) ∧ Own w' w.heap.size 3 (ints l) ∧ RS w' 1 (some ⟨w.heap.size, 0, none⟩) l.length l.length (ints l) ∧ Below w.heap.size w w'
