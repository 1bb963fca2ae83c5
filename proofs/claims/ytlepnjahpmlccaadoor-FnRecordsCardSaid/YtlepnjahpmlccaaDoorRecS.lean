/- SplitLines and ParseRecord of the reference. -/
import Derived.Test.YtlepnjahpmlccaaDoorRecP
import Derived.Test.YtlepnjahpmlccaaDoorMade
namespace Go.Proofs.YtlepnjahpmlccaaDoor
open Go.RowKit Go.Lib
set_option linter.unusedVariables false
set_option maxRecDepth 100000
/-- The lines of a text: an empty one at the end is left out. -/
def linesOf (l : List UInt8) : List (List UInt8) := if (splitB 10 l).getLast? = some [] then (splitB 10 l).dropLast else splitB 10 l
theorem linesOf_end {l z : List UInt8} {q : List (List UInt8)} (h : splitB 10 l = q ++ [z]) : linesOf l = if z = [] then q else q ++ [z] := by
  unfold linesOf
  rw [h]
  simp
theorem RS.head {w : World} {A : Option Addr} {n m c : Nat} {xs : List Value} (h : RS w 1 A n c xs) (hm : m ≤ n) : RS w 1 A m c (xs.take m) := by
  obtain ⟨hl, A0, c0, hv, hn, hc, h0⟩ := h
  simp only [Value.slice.injEq] at hv
  obtain ⟨rfl, _, rfl⟩ := hv
  refine ⟨by rw [List.length_take]; omega, A, c, rfl, by omega, hc, fun hp => ?_⟩
  obtain ⟨b, o, hA, h1, h2, h3⟩ := h0 (by omega)
  exact ⟨b, o, hA, h1, h2, fun j hj => by rw [h3 j (by omega), List.getElem?_take_of_lt (by omega)]⟩
set_option maxHeartbeats 4000000 in
theorem S_SplitLines (l : List UInt8) (w : World) (hlim : l.length ≤ 1048576) :
    Calls Tryd.prog 44 #[str l] w (OutStrs (linesOf l) w) := by
  obtain ⟨ps, hps⟩ : ∃ ps, splitB 10 l = ps := ⟨_, rfl⟩
  have hpos := splitB_pos 10 l
  have hlen := splitB_len 10 l
  have HSA : Hid (∀ wx, Calls Tryd.prog 45 #[str l, .string ⟨#[10]⟩] wx (OutStrs ps wx)) := Lib.hid (fun wx => by have := S_SplitAny 10 l wx hlim; rwa [hps] at this)
  obtain ⟨q, z, hqz⟩ : ∃ q z, ps = q ++ [z] := by
    rw [hps] at hpos
    refine ⟨ps.dropLast, ps.getLast (by rintro rfl; cases hpos), (List.dropLast_concat_getLast _).symm⟩
  have hL := linesOf_end (hps.trans hqz)
  have HL := Lib.hid hL
  have hpl : ps.length = q.length + 1 := by rw [hqz]; simp
  have hql : q.length ≤ 1048576 := by rw [hps] at hlen; omega
  clear hpos hlen hps hL
  go_enter Tryd.func44, Tryd.ntmps44
  go_wp2_with fail
  refine (HSA.out _).mono ?_
  rintro e w1 ⟨P, pc, rfl, hrs, hpg, hb⟩
  rw [hpl]
  rw [hpl] at hrs
  have HRS := Lib.hid hrs
  have HPG := Lib.hid hpg
  have HB := Lib.hid hb
  obtain ⟨b, off, rfl, hbh, hcell⟩ := hrs.open_.2.2 (by omega)
  have c1 : w1.cell? ⟨b, off + q.length, none⟩ = some (str z) := by rw [hcell q.length (by omega), hqz]; simp
  have hw1 : IntKind.i64.wrap (((q.length + 1 : Nat) : Int) - 1) = q.length := by rw [show ((q.length + 1 : Nat) : Int) - 1 = q.length by omega]; exact IntWalk.i64_in _ (by omega)
  have hw2 : IntKind.i64.wrap ((q.length : Int) + 1 - 1) = q.length := by rw [show (q.length : Int) + 1 - 1 = q.length by omega]; exact IntWalk.i64_in _ (by omega)
  have i2 : (q.length : Int) < (q.length : Int) + 1 := by omega
  have hpc := hrs.open_.1
  clear hcell hrs hpg hb hpl HSA
  by_cases hz : z = []
  · have HL2 : Hid (linesOf l = q) := Lib.hid (by rw [HL.out, if_pos hz])
    have HR2 : Hid (RS w1 1 (some ⟨b, off, none⟩) q.length pc (strs q)) := Lib.hid (by have := RS.head HRS.out (m := q.length) (by omega); rw [hqz] at this; simpa using this)
    subst hz
    go_wp2_with fail
    go_ret
    rw [HL2.out]
    exact ⟨_, _, rfl, HR2.out, HPG.out, HB.out⟩
  · have HL2 : Hid (linesOf l = q ++ [z]) := Lib.hid (by rw [HL.out, if_neg hz])
    have hzb : z.isEmpty = false := by cases z with | nil => exact absurd rfl hz | cons => rfl
    go_wp2_with fail
    go_ret
    rw [HL2.out]
    have hql2 : (q ++ [z]).length = q.length + 1 := by simp
    exact ⟨_, _, by rw [hql2]; rfl, by rw [hql2, ← hqz]; exact HRS.out, HPG.out, HB.out⟩
end Go.Proofs.YtlepnjahpmlccaaDoor
