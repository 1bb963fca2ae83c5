/- Rows of elements that hold rows of their own: what can be read. -/
import Derived.Test.YtnlbojckobgjpaaDoorOpen
import Derived.Test.YtnlbojckobgjpaaDoorTxtI
namespace Go.Proofs.YtnlbojckobgjpaaDoor
open Go.RowKit
set_option linter.unusedVariables false
set_option maxRecDepth 100000
abbrev ENode := Int × List UInt8 × Int × List Int
abbrev EAssign := List UInt8 × Int
abbrev EProg := List ENode × List EAssign
/-- A row of elements of sz cells, each of which is read as P says. -/
def RowOf {α : Type} (sz : Nat) (P : World → List Value → α → Prop) (w : World) (v : Value) (l : List α) : Prop :=
  ∃ (A : Option Addr) (c : Nat) (cs : List Value), v = .slice A l.length c ∧ RS w sz A l.length c cs ∧ ∀ (i : Nat) (h : i < l.length), P w ((cs.drop (i * sz)).take sz) l[i]
theorem RowOf.step {α : Type} {sz : Nat} {P : World → List Value → α → Prop} {w w' : World} {v : Value} {l : List α} (hb : Below w.heap.size w w') (hP : ∀ cs x, P w cs x → P w' cs x) (h : RowOf sz P w v l) : RowOf sz P w' v l := by
  obtain ⟨A, c, cs, rfl, hr, hc⟩ := h
  exact ⟨A, c, cs, rfl, RS.step hb hr, fun i hi => hP _ _ (hc i hi)⟩
theorem RowOf.len {α : Type} {sz : Nat} {P : World → List Value → α → Prop} {w : World} {v : Value} {l : List α} (h : RowOf sz P w v l) : l.length ≤ maxLen := by
  obtain ⟨A, c, cs, rfl, hr, hc⟩ := h
  exact hr.len
/-- The slice, and one element's cells. -/
theorem RowOf.open_ {α : Type} {sz : Nat} {P : World → List Value → α → Prop} {w : World} {v : Value} {l : List α} (h : RowOf sz P w v l) : ∃ (A : Option Addr) (c : Nat), v = .slice A l.length c ∧ l.length ≤ c ∧ c ≤ maxLen ∧
    ∀ (i : Nat) (hi : i < l.length), ∃ b o cs, A = some ⟨b, o, none⟩ ∧ b < w.heap.size ∧ P w cs l[i] ∧ cs.length = sz ∧ ∀ j, j < sz → w.cell? ⟨b, o + (i * sz + j), none⟩ = cs[j]? := by
  obtain ⟨A, c, cs, rfl, hr, hc⟩ := h
  have hxl := hr.xlen
  obtain ⟨h1, h2, h3⟩ := hr.open_
  refine ⟨A, c, rfl, h1, h2, fun i hi => ?_⟩
  obtain ⟨b, o, hA, hb, hcell⟩ := h3 (by omega)
  have hle : (i + 1) * sz ≤ l.length * sz := Nat.mul_le_mul_right _ hi
  rw [Nat.succ_mul] at hle
  refine ⟨b, o, _, hA, hb, hc i hi, by rw [List.length_take, List.length_drop]; omega, fun j hj => ?_⟩
  rw [hcell _ (by omega), List.getElem?_take_of_lt hj, List.getElem?_drop]
def IntsAt (w : World) (v : Value) (l : List Int) : Prop := ∃ (A : Option Addr) (c : Nat), v = .slice A l.length c ∧ RS w 1 A l.length c (ints l)
theorem IntsAt.step {w w' : World} {v : Value} {l : List Int} (hb : Below w.heap.size w w') (h : IntsAt w v l) : IntsAt w' v l := by
  obtain ⟨A, c, rfl, hr⟩ := h
  exact ⟨A, c, rfl, RS.step hb hr⟩
def NodeAt (w : World) (cs : List Value) (x : ENode) : Prop := ∃ v, cs = [.int .i64 x.1, str x.2.1, .int .i64 x.2.2.1, v] ∧ x.2.1.length ≤ maxLen ∧ IntsAt w v x.2.2.2
theorem NodeAt.step {w w' : World} (hb : Below w.heap.size w w') (cs : List Value) (x : ENode) (h : NodeAt w cs x) : NodeAt w' cs x := by
  obtain ⟨v, rfl, hl, hr⟩ := h
  exact ⟨v, rfl, hl, hr.step hb⟩
def AssignAt (w : World) (cs : List Value) (x : EAssign) : Prop := cs = [str x.1, .int .i64 x.2] ∧ x.1.length ≤ maxLen
abbrev NodesAt := RowOf 4 NodeAt
abbrev AssignsAt := RowOf 2 AssignAt
theorem NodesAt.step {w w' : World} {v : Value} {l : List ENode} (hb : Below w.heap.size w w') (h : NodesAt w v l) : NodesAt w' v l := RowOf.step hb (fun cs x hx => NodeAt.step hb cs x hx) h
theorem AssignsAt.step {w w' : World} {v : Value} {l : List EAssign} (hb : Below w.heap.size w w') (h : AssignsAt w v l) : AssignsAt w' v l := RowOf.step hb (fun cs x hx => hx) h
def ProgAt (w : World) (cs : List Value) (x : EProg) : Prop := ∃ u v, cs = [u, v] ∧ NodesAt w u x.1 ∧ AssignsAt w v x.2
theorem ProgAt.step {w w' : World} (hb : Below w.heap.size w w') (cs : List Value) (x : EProg) (h : ProgAt w cs x) : ProgAt w' cs x := by
  obtain ⟨u, v, rfl, h1, h2⟩ := h
  exact ⟨u, v, rfl, NodesAt.step hb h1, AssignsAt.step hb h2⟩
abbrev ProgsAt := RowOf 2 ProgAt
theorem ProgsAt.step {w w' : World} {v : Value} {l : List EProg} (hb : Below w.heap.size w w') (h : ProgsAt w v l) : ProgsAt w' v l := RowOf.step hb (fun cs x hx => ProgAt.step hb cs x hx) h
section
variable {H : Type} {enc : TypeId × Value → H} {W : World}
/-- A slice of what can be read element by element. -/
theorem Can.rowOf {α : Type} {t e : TypeId} {cs : List Value} {P : World → List Value → α → Prop} (h : Can enc W t cs) (ht : Tryd.prog.underlying t = some (.slice e)) (size : Nat) (hsz : Tryd.prog.cellsOf e = size) (hpos : 0 < size) (hP : ∀ ys, Can enc W e ys → ∃ x, P W ys x) :
    ∃ (v : Value) (l : List α), cs = [v] ∧ RowOf size P W v l := by
  obtain ⟨v, n, xs, rfl, hr, hc⟩ := h.slice ht size hsz hpos
  have hch : ∀ m, m ≤ n → ∃ l : List α, l.length = m ∧ ∀ (i : Nat) (h : i < l.length), P W ((xs.drop (i * size)).take size) l[i] := by
    intro m
    induction m with
    | zero => intro _; exact ⟨[], rfl, fun i h => absurd h (by simp)⟩
    | succ m ih =>
      intro hm
      obtain ⟨l, hl, hp⟩ := ih (by omega)
      obtain ⟨x, hx⟩ := hP _ (hc m (by omega))
      refine ⟨l ++ [x], by simp [hl], fun i hi => ?_⟩
      rcases Nat.lt_or_ge i l.length with h1 | h1
      · rw [List.getElem_append_left h1]; exact hp i h1
      · have hi' : i = l.length := by simp at hi; omega
        subst hi'
        rw [List.getElem_concat_length rfl, hl]; exact hx
  obtain ⟨l, hl, hp⟩ := hch n (Nat.le_refl _)
  subst hl
  have u := hr
  obtain ⟨_, A, c, rfl, _⟩ := hr
  exact ⟨_, l, rfl, A, c, xs, rfl, RS.mk_ u, hp⟩
end
section
variable {H : Type} {enc : TypeId × Value → H} {W : World}
theorem Can.ints {cs : List Value} (h : Can enc W 71 cs) : ∃ (v : Value) (l : List Int), cs = [v] ∧ IntsAt W v l := by
  obtain ⟨v, l, rfl, hr, _⟩ := h.intRow Tryd.underlying71 Tryd.underlying3 T.cellInt
  have u := hr
  obtain ⟨_, A, c, rfl, _⟩ := hr
  exact ⟨_, l, rfl, A, c, rfl, RS.mk_ u⟩
theorem Can.str {cs : List Value} (h : Can enc W 9 cs) : ∃ l : List UInt8, cs = [str l] ∧ l.length ≤ maxLen := by
  obtain ⟨s, rfl, hs⟩ := h.string Tryd.underlying9
  exact ⟨s.data.toList, rfl, hs⟩
end
end Go.Proofs.YtnlbojckobgjpaaDoor
