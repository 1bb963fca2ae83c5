/- MADE BY PROGRAM (genbools.py) out of the text on bools. The laws' own helpers on slices of bools: szBoolS, toBoolS, eqBoolS. -/
import Derived.Test.YthfnldjldfkmnaaInts
namespace Go.Proofs.Ythfnldjldfkmnaa
open Go.RowKit
set_option linter.unusedVariables false
set_option maxHeartbeats 400000 in
theorem L_szBoolS (A : Option Addr) (n c : Nat) (left : Int) (hl : 0 ≤ left) (hl2 : left ≤ 1048576) (hn : n ≤ maxLen) (w : World) :
    Calls Try.prog 134 #[.slice A n c, .int .i64 left] w fun e w' => e = .returned (.int .i64 (szF left n)) ∧ w = w' := by
  unfold maxLen at hn
  go_enter Try.func134, Try.ntmps134
  go_wp2
  all_goals
    go_ret
    exact ⟨ret_int (by unfold szF; split <;> omega), rfl⟩
def SameToB (l m : List Bool) (k : Nat) : Prop := l.take k = m.take k
theorem SameToB.succ {l m : List Bool} {k : Nat} (h : SameToB l m k) (hl : k < l.length) (hm : k < m.length) (e : l[k] = m[k]) : SameToB l m (k + 1) := by
  unfold SameToB at *
  rw [List.take_succ_eq_append_getElem hl, List.take_succ_eq_append_getElem hm, h, e]
theorem SameToB.whole {l m : List Bool} (h : SameToB l m l.length) (hlen : l.length = m.length) : l = m := by
  unfold SameToB at h
  rwa [List.take_of_length_le (Nat.le_refl _), hlen, List.take_of_length_le (Nat.le_refl _)] at h
theorem bools_at {l : List Bool} {k : Nat} (h : k < l.length) : (bools l)[k]? = some (.bool l[k]) := by simp [h]
set_option maxHeartbeats 400000 in
theorem L_eqBoolS (A A' : Option Addr) (c c' : Nat) (l m : List Bool) (w : World) (h : RS w 1 A l.length c (bools l)) (h' : RS w 1 A' m.length c' (bools m)) :
    Calls Try.prog 141 #[.slice A l.length c, .slice A' m.length c'] w fun e w' => e = .returned (.bool (decide (l = m))) ∧ Below w.heap.size w w' := by
  obtain ⟨hn, hc, hr⟩ := h.open_
  obtain ⟨hn', hc', hr'⟩ := h'.open_
  unfold maxLen at hc hc'
  clear h h'
  by_cases hlen : l.length = m.length
  case neg =>
    have e1 : decide (l = m) = false := by simp; intro e; exact hlen (by rw [e])
    have e2 : ((l.length : Int) != (m.length : Int)) = true := by simp; omega
    have HE := Lib.hid e1
    clear e1 hr hr'
    go_enter Try.func141, Try.ntmps141
    go_wp2
    go_ret
    exact ⟨ret_bool HE.out.symm, Below.refl _ _⟩
  case pos =>
    have e2 : ((l.length : Int) != (m.length : Int)) = false := by simp; omega
    have HL := Lib.hid hlen
    have HR := Lib.hid hr
    have HR' := Lib.hid hr'
    have hB0 := Below.refl w.heap.size w
    clear hlen hr hr'
    obtain ⟨w0, hw0⟩ : ∃ w0, w0 = w := ⟨_, rfl⟩
    have HW := Lib.hid hw0
    clear hw0
    go_enter Try.func141, Try.ntmps141
    go_wp2
    go_loopw [5] (fun i wr => ∃ k : Nat, k ≤ l.length ∧ i = .int .i64 k ∧ SameToB l m k ∧ Below w.heap.size w wr) (fun i _ => l.length - (intOf i).toNat)
    case atStart => exact ⟨0, Nat.zero_le _, rfl, rfl, hB0⟩
    case round =>
      obtain ⟨k, hk, rfl, hst, hb⟩ := hrel
      have HB := Lib.hid hb
      clear hb hB0
      by_cases hlt : k < l.length
      · have hltm : k < m.length := by have := HL.out; omega
        obtain ⟨b, o, rfl, hbh, hcell⟩ := HR.out (by omega)
        obtain ⟨b', o', rfl, hbh', hcell'⟩ := HR'.out (by omega)
        have c1 : wr.cell? ⟨b, o + k, none⟩ = some (.bool l[k]) := by
          rw [(bcell HB.out).1 _ _ (by omega), hcell k (by omega), bools_at hlt]
        have c2 : wr.cell? ⟨b', o' + k, none⟩ = some (.bool m[k]) := by
          rw [(bcell HB.out).1 _ _ (by omega), hcell' k (by omega), bools_at hltm]
        clear hcell hcell'
        have b0 : (0 : Int) ≤ k := by omega
        have b1 : (k : Int) < l.length := by omega
        have b2 : (k : Int) < m.length := by omega
        have HE : Hid (l[k] = m[k] → SameToB l m (k + 1)) := fun he => hst.succ hlt hltm he
        have HF : Hid (¬ l[k] = m[k] → decide (l = m) = false) := by show _ → _; intro he; simp; intro e; subst e; exact he rfl
        clear hst
        generalize l[k] = x at *
        generalize m[k] = y at *
        cases x <;> cases y
        case false.false | true.true =>
          have hst := HE.out rfl
          have HS := Lib.hid hst
          clear hst
          go_wp2
          go_quiet (fail)
          go_wp2
          go_roundw
          case rel => exact ⟨k + 1, by omega, by go_num, HS.out, below_drewN HB.out _⟩
          case measure => simp [intOf]; omega
        case false.true | true.false =>
          have hf := HF.out (by simp)
          have HG := Lib.hid hf
          clear hf
          go_wp2
          go_quiet (fail)
          go_wp2
          go_ret
          exact ⟨ret_bool HG.out.symm, below_drewN HB.out _⟩
      · have hf : decide (l = m) = true := by
          simp
          obtain rfl : k = l.length := by omega
          exact hst.whole HL.out
        have HF := Lib.hid hf
        clear hf
        go_wp2
        go_ret
        exact ⟨ret_bool HF.out.symm, HB.out⟩
theorem T.infoBool : (Try.prog.info? 4).map (fun i => (i.zero, i.size, i.bytes)) = some (some (.bool false), 1, 1) := by kernel_rfl
def FilledB (l : List Bool) (cs : List Value) (k : Nat) : Prop := cs.length = l.length ∧ ∀ j, j < k → cs[j]? = (bools l)[j]?
theorem FilledB.succ {l : List Bool} {cs : List Value} {k : Nat} (h : FilledB l cs k) (hk : k < l.length) : FilledB l (cs.set k (.bool l[k])) (k + 1) := by
  refine ⟨by rw [List.length_set]; exact h.1, fun j hj => ?_⟩
  by_cases e : k = j
  · subst e; rw [List.getElem?_set_self (by rw [h.1]; exact hk), bools_at hk]
  · rw [List.getElem?_set_ne e]; exact h.2 j (by omega)
def OutBools (l : List Bool) (w : World) (e : Ending) (w' : World) : Prop :=
  e = .returned (sl w.heap.size l.length) ∧ Own w' w.heap.size 4 (bools l) ∧ RS w' 1 (some ⟨w.heap.size, 0, none⟩) l.length l.length (bools l) ∧ Below w.heap.size w w'
set_option maxHeartbeats 400000 in
theorem L_toBoolS (A : Option Addr) (c : Nat) (l : List Bool) (w : World) (hs : l.length ≤ 1048576) (h : RS w 1 A l.length c (bools l)) :
    Calls Try.prog 137 #[.slice A l.length c] w (OutBools l w) := by
  obtain ⟨hn, hc, hr⟩ := h.open_
  unfold maxLen at hc
  clear h
  have HR := Lib.hid hr
  have hmk := fun W => run_mk (P := Try.prog) 94 4 _ 1 1 Try.underlying94 T.infoBool l.length (by omega) (by omega) W
  clear hr
  have ho : Own (w.alloc (.cells (madeCells #[Value.bool false] l.length) 4)) w.heap.size 4 (madeCells #[Value.bool false] l.length).toList := Own.new _ _ _
  have hl : (madeCells #[Value.bool false] l.length).toList.length = l.length := by simp [size_madeCells]
  have hb : Below w.heap.size w (w.alloc (.cells (madeCells #[Value.bool false] l.length) 4)) := (Below.refl _ _).alloc (Nat.le_refl _) _
  have HO := Lib.hid ho
  have HL := Lib.hid hl
  have HB0 := Lib.hid hb
  clear ho hl hb
  go_enter Try.func137, Try.ntmps137
  go_wp2
  go_loopw [4] (fun i wr => ∃ (k : Nat) (cs : List Value), k ≤ l.length ∧ i = .int .i64 k ∧ FilledB l cs k ∧ Own wr w.heap.size 4 cs ∧ Below w.heap.size w wr) (fun i _ => l.length - (intOf i).toNat)
  case atStart => exact ⟨0, _, Nat.zero_le _, rfl, ⟨HL.out, fun j hj => absurd hj (by omega)⟩, HO.out, HB0.out⟩
  case round =>
    clear hmk
    obtain ⟨k, cs, hk, rfl, hf, ho, hb⟩ := hrel
    have HB := Lib.hid hb
    have HO := Lib.hid ho
    have HF := Lib.hid hf
    clear hb ho hf
    by_cases hlt : k < l.length
    · obtain ⟨b, o, rfl, hbh, hcell⟩ := HR.out (by omega)
      have c1 : wr.cell? ⟨b, o + k, none⟩ = some (.bool l[k]) := by
        rw [(bcell HB.out).1 _ _ (by omega), hcell k (by omega), bools_at hlt]
      have c2 : wr.cell? ⟨w.heap.size, k, none⟩ = some (cs[k]'(by rw [HF.out.1]; exact hlt)) := by rw [HO.out.cell, List.getElem?_eq_getElem]
      have c3 : wr.frozen? ⟨w.heap.size, k, none⟩ = false := HO.out.frozen _
      clear hcell
      go_wp2
      go_roundw
      case rel => exact ⟨k + 1, _, by omega, by go_num, HF.out.succ hlt, HO.out.set_ _ _, HB.out.setCell (Nat.le_refl _) _⟩
      case measure => simp [intOf]; omega
    · go_wp2
      go_ret
      obtain rfl : k = l.length := by omega
      have hcs : cs = bools l := by
        apply List.ext_getElem?
        intro j
        by_cases hj : j < l.length
        · exact HF.out.2 j hj
        · rw [List.getElem?_eq_none (by rw [HF.out.1]; omega), List.getElem?_eq_none (by simp; omega)]
      exact ⟨rfl, hcs ▸ HO.out, (hcs ▸ HO.out : Own wr w.heap.size 4 (bools l)).rs (by simp) hs, HB.out⟩
end Go.Proofs.Ythfnldjldfkmnaa
