/- An argument of type []uint8; the walk of a law on the bytes of a draw. -/
import Derived.Test.YthpanpedoeghoaaCursor
import Derived.Test.YthpanpedoeghoaaOpen
import Derived.Test.YthpanpedoeghoaaMade
set_option linter.unusedVariables false
set_option linter.unusedSimpArgs false
set_option linter.unnecessarySimpa false
namespace Go.Proofs.Ythpanpedoeghoaa
open Go.ChangeShapes Go.WideShapes Go.ChangeAt Go.RowKit
set_option linter.unusedVariables false
theorem Arg.bytes {H : Type} {enc : TypeId × Value → H} {W : World} {v : Value} (h : Arg enc W 22 v) : ∃ (A : Option Addr) (c : Nat) (l : List Int), v = .slice A l.length c ∧ RS W 1 A l.length c (u8s l) := by
  have h1 := h.slice Try.underlying22
  obtain ⟨v', n, xs, hv, hr, hc⟩ := h1.slice Try.underlying22 1 (by kernel_rfl) (by omega)
  obtain rfl : v = v' := List.head_eq_of_cons_eq hv
  have hl := hr.1
  have : ∃ l : List Int, xs = u8s l := by
    have key : ∀ u ∈ xs, ∃ n, u = Value.int .u8 n := by
      intro u hu
      obtain ⟨i, hi, rfl⟩ := List.getElem_of_mem hu
      obtain ⟨m, hm, hw⟩ := (hc i (by omega)).int Try.underlying5
      rw [Nat.mul_one, List.drop_eq_getElem_cons hi, List.take_succ_cons] at hm
      injection hm with hm _
      exact ⟨m, hm⟩
    clear hl hc hr
    induction xs with
    | nil => exact ⟨[], rfl⟩
    | cons u xs ih =>
      obtain ⟨l, rfl⟩ := ih (fun u hu => key u (by simp [hu]))
      obtain ⟨n, rfl⟩ := key u (by simp)
      exact ⟨n :: l, rfl⟩
  obtain ⟨l, rfl⟩ := this
  obtain rfl : n = l.length := by simp at hl; omega
  have hr' := hr
  obtain ⟨_, A, c, rfl, _⟩ := hr
  exact ⟨A, c, l, rfl, hr'⟩
/-- A law on bytes: what is shown of its function. -/
def BytesLaw (f : FuncId) : Prop := ∀ (A : Option Addr) (c : Nat) (l : List Int) (w : World), RS w 1 A l.length c (u8s l) → Calls Try.prog f #[.slice A l.length c] w fun e w' => e = .returned (.bool true) ∧ Below w.heap.size w w'
set_option maxRecDepth 100000 in
theorem bytes_walk {f : FuncId} (h : BytesLaw f) : LawWalk f [22] := by
  intro H enc W base args ds ps hA hval hlt
  obtain ⟨v0, rfl, h0⟩ := args1 hA hval
  obtain ⟨A, c, l, rfl, hr⟩ := h0.bytes
  exact h A c l W hr
end Go.Proofs.Ythpanpedoeghoaa
