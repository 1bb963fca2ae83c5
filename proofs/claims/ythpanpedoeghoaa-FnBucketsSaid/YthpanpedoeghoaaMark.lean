/- The laws' marks: a row of the program's answer is overwritten by k, k + 1, .. and later read again. -/
import Derived.Test.YthpanpedoeghoaaInts
set_option linter.unusedVariables false
set_option linter.unusedSimpArgs false
set_option linter.unnecessarySimpa false
namespace Go.Proofs.Ythpanpedoeghoaa
open Go.RowKit
set_option linter.unusedVariables false
/-- Below block B the world is as it was, but for the blocks G. -/
structure Only (B : Nat) (G : List Nat) (w w' : World) : Prop where
  os : w'.os = w.os
  tape : w'.tape = w.tape
  output : w'.output = w.output
  size : w.heap.size ≤ w'.heap.size
  block : ∀ k, k < B → k ∉ G → w'.heap[k]? = w.heap[k]?
theorem Only.refl (B : Nat) (G : List Nat) (w : World) : Only B G w w := ⟨rfl, rfl, rfl, Nat.le_refl _, fun _ _ _ => rfl⟩
theorem Only.of_below {B : Nat} {w w' : World} (h : Below B w w') (G : List Nat) : Only B G w w' := ⟨h.os, h.tape, h.output, h.size, fun k hk _ => h.block k hk⟩
theorem Only.trans {B C : Nat} {G H : List Nat} {a b c : World} (h : Only B G a b) (k : Only C H b c) (hB : B ≤ C) (hG : ∀ x, x ∈ H → x ∈ G) : Only B G a c :=
  ⟨k.os.trans h.os, k.tape.trans h.tape, k.output.trans h.output, Nat.le_trans h.size k.size, fun i hi hn => (k.block i (by omega) (fun hx => hn (hG _ hx))).trans (h.block i hi hn)⟩
theorem Only.setCell {B : Nat} {G : List Nat} {a w : World} (h : Only B G a w) {p : Addr} (hp : p.block ∈ G) (u : Value) : Only B G a (w.setCell p u) :=
  ⟨h.os, h.tape, h.output, by simpa [World.setCell] using h.size, fun i hi hn => (Below.heap_setCell w p u i (fun e => hn (e ▸ hp))).trans (h.block i hi hn)⟩
theorem Only.drew {B : Nat} {G : List Nat} {a w : World} (h : Only B G a w) : Only B G a w.drew := ⟨h.os, h.tape, h.output, h.size, h.block⟩
theorem Only.drewN {B : Nat} {G : List Nat} {a w : World} (h : Only B G a w) (n : Nat) : Only B G a (w.drewN n) := ⟨h.os, h.tape, h.output, h.size, h.block⟩
theorem Only.below {B C : Nat} {G : List Nat} {a w : World} (h : Only B G a w) (hC : C ≤ B) (hG : ∀ x, x ∈ G → C ≤ x) : Below C a w :=
  ⟨h.os, h.tape, h.output, h.size, fun i hi => h.block i (by omega) (fun hx => by have := hG i hx; omega)⟩
theorem Only.own {B : Nat} {G : List Nat} {a w : World} (h : Only B G a w) {g : Nat} {t : TypeId} {cs : List Value} (ho : Own a g t cs) (hB : g < B) (hG : g ∉ G) : Own w g t cs := (h.block g hB hG).trans ho
theorem Only.cell {B : Nat} {G : List Nat} {a w : World} (h : Only B G a w) (g : Nat) (hB : g < B) (hG : g ∉ G) : (∀ o, w.cell? ⟨g, o, none⟩ = a.cell? ⟨g, o, none⟩) ∧ (∀ o, w.frozen? ⟨g, o, none⟩ = a.frozen? ⟨g, o, none⟩) := by
  have := h.block g hB hG
  exact ⟨fun o => by simp [World.cell?, this], fun o => by simp [World.frozen?, this]⟩
/-- k, k + 1, .. -/
def upFrom (k : Int) (n : Nat) : List Int := (List.range n).map (fun (i : Nat) => k + i)
theorem upFrom_len (k : Int) (n : Nat) : (upFrom k n).length = n := by simp [upFrom]
theorem upFrom_at {k : Int} {n i : Nat} (h : i < n) : (ints (upFrom k n))[i]? = some (.int .i64 (k + i)) := by simp [upFrom, h]
def Marked (k : Int) (n : Nat) (cs : List Value) (i : Nat) : Prop := cs.length = n ∧ ∀ j, j < i → cs[j]? = (ints (upFrom k n))[j]?
theorem Marked.succ {k : Int} {n i : Nat} {cs : List Value} (h : Marked k n cs i) (hi : i < n) : Marked k n (cs.set i (.int .i64 (k + i))) (i + 1) := by
  refine ⟨by rw [List.length_set]; exact h.1, fun j hj => ?_⟩
  by_cases e : i = j
  · subst e; rw [List.getElem?_set_self (by rw [h.1]; exact hi), upFrom_at hi]
  · rw [List.getElem?_set_ne e]; exact h.2 j (by omega)
theorem Marked.all {k : Int} {n : Nat} {cs : List Value} (h : Marked k n cs n) : cs = ints (upFrom k n) := by
  apply List.ext_getElem?
  intro j
  by_cases hj : j < n
  · exact h.2 j hj
  · rw [List.getElem?_eq_none (by rw [h.1]; omega), List.getElem?_eq_none (by simp [upFrom]; omega)]
theorem Own.set_left {w : World} {g : Nat} {t : TypeId} {cs ds : List Value} (h : Own w g t (cs ++ ds)) (i : Nat) (hi : i < cs.length) (u : Value) : Own (w.setCell ⟨g, i, none⟩ u) g t (cs.set i u ++ ds) := by
  have := h.set_ i u
  rwa [List.set_append_left _ _ hi] at this
/-- The blocks of a row. -/
def gOf : Option Addr → List Nat
  | none => []
  | some a => [a.block]
/-- A row of the callee's own (n elements of sz cells, room for c): none at all, or the first part of a block. -/
def OwnS (w : World) (sz : Nat) (A : Option Addr) (n c : Nat) (t : TypeId) (cs : List Value) : Prop :=
  cs.length = n * sz ∧ n ≤ c ∧ c ≤ maxLen ∧ ((A = none ∧ n = 0) ∨ ∃ g ds, A = some ⟨g, 0, none⟩ ∧ Own w g t (cs ++ ds))
section
variable {w w' a : World} {A : Option Addr} {sz n c : Nat} {t : TypeId} {cs : List Value}
theorem OwnS.lt (h : OwnS w sz A n c t cs) : ∀ x, x ∈ gOf A → x < w.heap.size := by
  obtain ⟨_, _, _, ⟨rfl, _⟩ | ⟨g, ds, rfl, ho⟩⟩ := h
  · intro x hx; cases hx
  · intro x hx; simp [gOf] at hx; subst hx; exact ho.lt
theorem OwnS.only {B : Nat} {G : List Nat} (h : OwnS a sz A n c t cs) (hO : Only B G a w) (hg : ∀ x, x ∈ gOf A → x < B ∧ x ∉ G) : OwnS w sz A n c t cs := by
  obtain ⟨hl, h1, h2, ⟨rfl, h0⟩ | ⟨g, ds, rfl, ho⟩⟩ := h
  · exact ⟨hl, h1, h2, .inl ⟨rfl, h0⟩⟩
  · have := hg g (by simp [gOf])
    exact ⟨hl, h1, h2, .inr ⟨g, ds, rfl, hO.own ho this.1 this.2⟩⟩
theorem OwnS.step (hb : Below w.heap.size w w') (h : OwnS w sz A n c t cs) : OwnS w' sz A n c t cs := h.only (Only.of_below hb []) (fun x hx => ⟨h.lt x hx, by simp⟩)
theorem OwnS.alloc (h : OwnS w sz A n c t cs) (o : Obj) : OwnS (w.alloc o) sz A n c t cs := h.step ((Below.refl _ _).alloc (Nat.le_refl _) o)
theorem OwnS.drewN (h : OwnS w sz A n c t cs) (k : Nat) : OwnS (w.drewN k) sz A n c t cs := h
theorem OwnS.drew (h : OwnS w sz A n c t cs) : OwnS w.drew sz A n c t cs := h
theorem OwnS.far (h : OwnS w sz A n c t cs) {p : Addr} (hp : ∀ x, x ∈ gOf A → x ≠ p.block) (u : Value) : OwnS (w.setCell p u) sz A n c t cs := by
  obtain ⟨hl, h1, h2, ⟨rfl, h0⟩ | ⟨g, ds, rfl, ho⟩⟩ := h
  · exact ⟨hl, h1, h2, .inl ⟨rfl, h0⟩⟩
  · exact ⟨hl, h1, h2, .inr ⟨g, ds, rfl, ho.far (hp g (by simp [gOf])) u⟩⟩
theorem OwnS.rs (h : OwnS w sz A n c t cs) : RS w sz A n c cs := by
  obtain ⟨hl, h1, h2, ⟨rfl, h0⟩ | ⟨g, ds, rfl, ho⟩⟩ := h
  · subst h0
    exact ⟨hl, none, c, rfl, h1, h2, fun h => absurd h (by omega)⟩
  · exact ⟨hl, some ⟨g, 0, none⟩, c, rfl, h1, h2, fun h => ⟨g, 0, rfl, Nat.zero_le _, ho.lt, fun j hj => by rw [Nat.zero_add, ho.cell, List.getElem?_append_left (by omega)]⟩⟩
theorem OwnS.none_ (w : World) (sz : Nat) (t : TypeId) : OwnS w sz none 0 0 t [] := ⟨by simp, Nat.le_refl _, Nat.zero_le _, .inl ⟨rfl, rfl⟩⟩
theorem OwnS.some_ {g : Nat} (h : Own w g t cs) (hl : cs.length = n * sz) (hn : n ≤ 1048576) : OwnS w sz (some ⟨g, 0, none⟩) n n t cs := ⟨hl, Nat.le_refl _, by unfold maxLen; omega, .inr ⟨g, [], rfl, by rwa [List.append_nil]⟩⟩
end
end Go.Proofs.Ythpanpedoeghoaa
