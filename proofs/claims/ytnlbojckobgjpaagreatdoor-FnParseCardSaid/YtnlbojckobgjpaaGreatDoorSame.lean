/- slices.Equal on ints and bools; SameImage, SameAccum, SameFilm of the reference and of the program. -/
import Derived.Test.YtnlbojckobgjpaaGreatDoorMgD
set_option linter.unusedVariables false
set_option linter.unusedSimpArgs false
namespace Go.Proofs.YtnlbojckobgjpaaGreatDoor
open Go.RowKit
set_option maxHeartbeats 400000 in
theorem G_EqualInt {A A' : Option Addr} {c c' : Nat} {l m : List Int} (w : World) (h : RS w 1 A l.length c (ints l)) (h' : RS w 1 A' m.length c' (ints m)) :
    Calls Tryz.prog 57 #[.slice A l.length c, .slice A' m.length c'] w fun e w' => e = .returned (.bool (decide (l = m))) ∧ Below w.heap.size w w' := by
  obtain ⟨hn, hc, hr⟩ := h.open_
  obtain ⟨hn', hc', hr'⟩ := h'.open_
  unfold maxLen at hc hc'
  clear h h'
  by_cases hlen : l.length = m.length
  case neg =>
    have e1 : decide (l = m) = false := by simp; intro e; exact hlen (by rw [e])
    have e2 : ((l.length : Int) != (m.length : Int)) = true := by simp; omega
    have HE := Lib.hid e1
    clear e1 hr hr'
    go_enter Tryz.func57, Tryz.ntmps57
    go_wp2
    go_ret
    exact ⟨ret_bool HE.out.symm, Below.refl _ _⟩
  case pos =>
    have e2 : ((l.length : Int) != (m.length : Int)) = false := by simp; omega
    have HL := Lib.hid hlen
    have HR := Lib.hid hr
    have HR' := Lib.hid hr'
    have hB0 := Below.refl w.heap.size w
    clear hlen hr hr'
    go_enter Tryz.func57, Tryz.ntmps57
    go_wp2
    go_loopw [5, 13] (fun _ i wr => ∃ k : Nat, k ≤ l.length ∧ i = .int .i64 k ∧ SameTo l m k ∧ Below w.heap.size w wr) (fun _ i _ => l.length - (intOf i).toNat)
    case atStart => exact ⟨0, Nat.zero_le _, rfl, rfl, hB0⟩
    case round =>
      obtain ⟨k, hk, rfl, hst, hb⟩ := hrel
      have HB := Lib.hid hb
      clear hb hB0
      by_cases hlt : k < l.length
      · have hltm : k < m.length := by have := HL.out; omega
        obtain ⟨b, o, rfl, hbh, hcell⟩ := HR.out (by omega)
        obtain ⟨b', o', rfl, hbh', hcell'⟩ := HR'.out (by omega)
        have c1 : wr.cell? ⟨b, o + k, none⟩ = some (.int .i64 l[k]) := by
          rw [(bcell HB.out).1 _ _ (by omega), hcell k (by omega), ints_at hlt]
        have c2 : wr.cell? ⟨b', o' + k, none⟩ = some (.int .i64 m[k]) := by
          rw [(bcell HB.out).1 _ _ (by omega), hcell' k (by omega), ints_at hltm]
        clear hcell hcell'
        have b0 : (0 : Int) ≤ k := by omega
        have b1 : (k : Int) < l.length := by omega
        have b2 : (k : Int) < m.length := by omega
        by_cases he : l[k] = m[k]
        · have ht : (l[k] != m[k]) = false := by simp [he]
          have HE := Lib.hid he
          clear he
          go_wp2
          go_quiet (fail)
          go_wp2
          go_roundw
          case rel => exact ⟨k + 1, by omega, by go_num, hst.succ hlt hltm HE.out, below_drewN HB.out _⟩
          case measure => simp [intOf]; omega
        · have ht : (l[k] != m[k]) = true := by simp [he]
          have hf : decide (l = m) = false := by simp; intro e; subst e; exact he rfl
          have HF := Lib.hid hf
          clear he hf
          go_wp2
          go_quiet (fail)
          go_wp2
          go_ret
          exact ⟨ret_bool HF.out.symm, below_drewN HB.out _⟩
      · have hf : decide (l = m) = true := by
          simp
          obtain rfl : k = l.length := by omega
          exact hst.whole HL.out
        have HF := Lib.hid hf
        clear hf
        go_wp2
        go_ret
        exact ⟨ret_bool HF.out.symm, HB.out⟩
def sameImg (W H : Int) (l : List Int) (W' H' : Int) (l' : List Int) : Bool := decide (W = W') && (decide (H = H') && decide (l = l'))
end Go.Proofs.YtnlbojckobgjpaaGreatDoor
