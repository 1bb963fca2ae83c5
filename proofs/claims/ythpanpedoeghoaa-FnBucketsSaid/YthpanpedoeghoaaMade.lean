/- MADE BY PROGRAM (genmade.py). What makers of rows and of structs with rows leave; the laws' toX, markX, heldX in these words. -/
import Derived.Test.YthpanpedoeghoaaMarks
import Derived.Test.YthpanpedoeghoaaApp
set_option linter.unusedVariables false
set_option linter.unusedSimpArgs false
set_option linter.unnecessarySimpa false
namespace Go.Proofs.Ythpanpedoeghoaa
open Go.RowKit
set_option linter.unusedVariables false
/-- A row of the callee's own was made. -/
def MadeRow (t : TypeId) (sz n : Nat) (cs : List Value) (w : World) (e : Ending) (w' : World) : Prop :=
  ∃ A c, e = .returned (.slice A n c) ∧ OwnS w' sz A n c t cs ∧ (∀ x, x ∈ gOf A → w.heap.size ≤ x) ∧ Below w.heap.size w w'
theorem own_row {w w' : World} {t : TypeId} {sz n : Nat} {cs : List Value} {g : Nat} (h : Own w' g t cs) (hl : cs.length = n * sz) (hn : n ≤ 1048576) (hg : w.heap.size ≤ g) (hb : Below w.heap.size w w') : MadeRow t sz n cs w (.returned (sl g n)) w' :=
  ⟨_, _, rfl, OwnS.some_ h hl hn, fun x hx => by simp [gOf] at hx; omega, hb⟩
theorem Grow.made {w w' : World} {t : TypeId} {sz n c : Nat} {A : Option Addr} {cs : List Value} {base : Nat} (h : Grow w' base t sz A n c cs) (hb : w.heap.size ≤ base) (hB : Below w.heap.size w w') : MadeRow t sz n cs w (.returned (.slice A n c)) w' :=
  ⟨_, _, rfl, h.ownS, fun x hx => Nat.le_trans hb (h.ge x hx), hB⟩
theorem MadeRow.none_ (w : World) (t : TypeId) (sz : Nat) {w' : World} (hB : Below w.heap.size w w') : MadeRow t sz 0 [] w (.returned (.slice none 0 0)) w' :=
  ⟨none, 0, rfl, OwnS.none_ _ _ _, fun x hx => absurd hx (by simp [gOf]), hB⟩
theorem Own.at_lit {w : World} {t : TypeId} {g : Nat} {l : List Value} (hg : g = w.heap.size) : Own (w.alloc (.cells l.toArray t)) g t l := by subst hg; exact Own.new w t l.toArray
/-- A local variable's box. -/
def CellsAt (w : World) (b : Nat) : Nat → List Value → Prop
  | _, [] => True
  | i, v :: l => w.cell? ⟨b, i, none⟩ = some v ∧ CellsAt w b (i + 1) l
def Box (w : World) (b : Nat) (cs : List Value) : Prop := b < w.heap.size ∧ CellsAt w b 0 cs
theorem CellsAt.same {w w' : World} {b : Nat} (h : ∀ o, w'.cell? ⟨b, o, none⟩ = w.cell? ⟨b, o, none⟩) : ∀ (i : Nat) (cs : List Value), CellsAt w b i cs → CellsAt w' b i cs
  | _, [], _ => trivial
  | i, v :: l, hc => ⟨(h i).trans hc.1, CellsAt.same h (i + 1) l hc.2⟩
theorem Box.step {w w' : World} {b : Nat} {cs : List Value} (hb : Below w.heap.size w w') (h : Box w b cs) : Box w' b cs := ⟨Nat.lt_of_lt_of_le h.1 hb.size, CellsAt.same (fun o => hb.cell (p := ⟨b, o, none⟩) h.1) 0 cs h.2⟩
theorem Box.only {w w' : World} {B : Nat} {G : List Nat} {b : Nat} {cs : List Value} (hO : Only B G w w') (h : Box w b cs) (hB : b < B) (hG : b ∉ G) : Box w' b cs := ⟨Nat.lt_of_lt_of_le h.1 hO.size, CellsAt.same (hO.cell b hB hG).1 0 cs h.2⟩
theorem CellsAt.of_own {w : World} {b : Nat} {t : TypeId} {es : List Value} (h : Own w b t es) : ∀ (i : Nat) (cs : List Value), (∀ j, j < cs.length → es[i + j]? = cs[j]?) → CellsAt w b i cs
  | _, [], _ => trivial
  | i, v :: l, hc => ⟨by rw [h.cell]; have := hc 0 (by simp); simpa using this, CellsAt.of_own h (i + 1) l (fun j hj => by have := hc (j + 1) (by simpa using hj); rw [Nat.add_assoc, Nat.add_comm 1 j]; simpa using this)⟩
theorem Box.of_own {w : World} {b : Nat} {t : TypeId} {cs : List Value} (h : Own w b t cs) : Box w b cs := ⟨h.lt, CellsAt.of_own h 0 cs (fun j _ => by rw [Nat.zero_add])⟩
theorem Box.lt {w : World} {b : Nat} {cs : List Value} (h : Box w b cs) : b < w.heap.size := h.1
theorem Box.open1 {w : World} {b : Nat} {v0 : Value} (h : Box w b [v0]) : b < w.heap.size ∧ w.cell? ⟨b, 0, none⟩ = some v0 := ⟨h.1, h.2.1⟩
theorem Box.mk1 {w : World} {b : Nat} {v0 : Value} (h : b < w.heap.size) (h0 : w.cell? ⟨b, 0, none⟩ = some v0) : Box w b [v0] := ⟨h, h0, trivial⟩
theorem Box.open2 {w : World} {b : Nat} {v0 v1 : Value} (h : Box w b [v0, v1]) : b < w.heap.size ∧ w.cell? ⟨b, 0, none⟩ = some v0 ∧ w.cell? ⟨b, 1, none⟩ = some v1 := ⟨h.1, h.2.1, h.2.2.1⟩
theorem Box.mk2 {w : World} {b : Nat} {v0 v1 : Value} (h : b < w.heap.size) (h0 : w.cell? ⟨b, 0, none⟩ = some v0) (h1 : w.cell? ⟨b, 1, none⟩ = some v1) : Box w b [v0, v1] := ⟨h, h0, h1, trivial⟩
theorem Box.open3 {w : World} {b : Nat} {v0 v1 v2 : Value} (h : Box w b [v0, v1, v2]) : b < w.heap.size ∧ w.cell? ⟨b, 0, none⟩ = some v0 ∧ w.cell? ⟨b, 1, none⟩ = some v1 ∧ w.cell? ⟨b, 2, none⟩ = some v2 := ⟨h.1, h.2.1, h.2.2.1, h.2.2.2.1⟩
theorem Box.mk3 {w : World} {b : Nat} {v0 v1 v2 : Value} (h : b < w.heap.size) (h0 : w.cell? ⟨b, 0, none⟩ = some v0) (h1 : w.cell? ⟨b, 1, none⟩ = some v1) (h2 : w.cell? ⟨b, 2, none⟩ = some v2) : Box w b [v0, v1, v2] := ⟨h, h0, h1, h2, trivial⟩
theorem Box.open4 {w : World} {b : Nat} {v0 v1 v2 v3 : Value} (h : Box w b [v0, v1, v2, v3]) : b < w.heap.size ∧ w.cell? ⟨b, 0, none⟩ = some v0 ∧ w.cell? ⟨b, 1, none⟩ = some v1 ∧ w.cell? ⟨b, 2, none⟩ = some v2 ∧ w.cell? ⟨b, 3, none⟩ = some v3 := ⟨h.1, h.2.1, h.2.2.1, h.2.2.2.1, h.2.2.2.2.1⟩
theorem Box.mk4 {w : World} {b : Nat} {v0 v1 v2 v3 : Value} (h : b < w.heap.size) (h0 : w.cell? ⟨b, 0, none⟩ = some v0) (h1 : w.cell? ⟨b, 1, none⟩ = some v1) (h2 : w.cell? ⟨b, 2, none⟩ = some v2) (h3 : w.cell? ⟨b, 3, none⟩ = some v3) : Box w b [v0, v1, v2, v3] := ⟨h, h0, h1, h2, h3, trivial⟩
theorem Box.open5 {w : World} {b : Nat} {v0 v1 v2 v3 v4 : Value} (h : Box w b [v0, v1, v2, v3, v4]) : b < w.heap.size ∧ w.cell? ⟨b, 0, none⟩ = some v0 ∧ w.cell? ⟨b, 1, none⟩ = some v1 ∧ w.cell? ⟨b, 2, none⟩ = some v2 ∧ w.cell? ⟨b, 3, none⟩ = some v3 ∧ w.cell? ⟨b, 4, none⟩ = some v4 := ⟨h.1, h.2.1, h.2.2.1, h.2.2.2.1, h.2.2.2.2.1, h.2.2.2.2.2.1⟩
theorem Box.mk5 {w : World} {b : Nat} {v0 v1 v2 v3 v4 : Value} (h : b < w.heap.size) (h0 : w.cell? ⟨b, 0, none⟩ = some v0) (h1 : w.cell? ⟨b, 1, none⟩ = some v1) (h2 : w.cell? ⟨b, 2, none⟩ = some v2) (h3 : w.cell? ⟨b, 3, none⟩ = some v3) (h4 : w.cell? ⟨b, 4, none⟩ = some v4) : Box w b [v0, v1, v2, v3, v4] := ⟨h, h0, h1, h2, h3, h4, trivial⟩
theorem Box.open6 {w : World} {b : Nat} {v0 v1 v2 v3 v4 v5 : Value} (h : Box w b [v0, v1, v2, v3, v4, v5]) : b < w.heap.size ∧ w.cell? ⟨b, 0, none⟩ = some v0 ∧ w.cell? ⟨b, 1, none⟩ = some v1 ∧ w.cell? ⟨b, 2, none⟩ = some v2 ∧ w.cell? ⟨b, 3, none⟩ = some v3 ∧ w.cell? ⟨b, 4, none⟩ = some v4 ∧ w.cell? ⟨b, 5, none⟩ = some v5 := ⟨h.1, h.2.1, h.2.2.1, h.2.2.2.1, h.2.2.2.2.1, h.2.2.2.2.2.1, h.2.2.2.2.2.2.1⟩
theorem Box.mk6 {w : World} {b : Nat} {v0 v1 v2 v3 v4 v5 : Value} (h : b < w.heap.size) (h0 : w.cell? ⟨b, 0, none⟩ = some v0) (h1 : w.cell? ⟨b, 1, none⟩ = some v1) (h2 : w.cell? ⟨b, 2, none⟩ = some v2) (h3 : w.cell? ⟨b, 3, none⟩ = some v3) (h4 : w.cell? ⟨b, 4, none⟩ = some v4) (h5 : w.cell? ⟨b, 5, none⟩ = some v5) : Box w b [v0, v1, v2, v3, v4, v5] := ⟨h, h0, h1, h2, h3, h4, h5, trivial⟩
theorem Box.open7 {w : World} {b : Nat} {v0 v1 v2 v3 v4 v5 v6 : Value} (h : Box w b [v0, v1, v2, v3, v4, v5, v6]) : b < w.heap.size ∧ w.cell? ⟨b, 0, none⟩ = some v0 ∧ w.cell? ⟨b, 1, none⟩ = some v1 ∧ w.cell? ⟨b, 2, none⟩ = some v2 ∧ w.cell? ⟨b, 3, none⟩ = some v3 ∧ w.cell? ⟨b, 4, none⟩ = some v4 ∧ w.cell? ⟨b, 5, none⟩ = some v5 ∧ w.cell? ⟨b, 6, none⟩ = some v6 := ⟨h.1, h.2.1, h.2.2.1, h.2.2.2.1, h.2.2.2.2.1, h.2.2.2.2.2.1, h.2.2.2.2.2.2.1, h.2.2.2.2.2.2.2.1⟩
theorem Box.mk7 {w : World} {b : Nat} {v0 v1 v2 v3 v4 v5 v6 : Value} (h : b < w.heap.size) (h0 : w.cell? ⟨b, 0, none⟩ = some v0) (h1 : w.cell? ⟨b, 1, none⟩ = some v1) (h2 : w.cell? ⟨b, 2, none⟩ = some v2) (h3 : w.cell? ⟨b, 3, none⟩ = some v3) (h4 : w.cell? ⟨b, 4, none⟩ = some v4) (h5 : w.cell? ⟨b, 5, none⟩ = some v5) (h6 : w.cell? ⟨b, 6, none⟩ = some v6) : Box w b [v0, v1, v2, v3, v4, v5, v6] := ⟨h, h0, h1, h2, h3, h4, h5, h6, trivial⟩
theorem Box.open8 {w : World} {b : Nat} {v0 v1 v2 v3 v4 v5 v6 v7 : Value} (h : Box w b [v0, v1, v2, v3, v4, v5, v6, v7]) : b < w.heap.size ∧ w.cell? ⟨b, 0, none⟩ = some v0 ∧ w.cell? ⟨b, 1, none⟩ = some v1 ∧ w.cell? ⟨b, 2, none⟩ = some v2 ∧ w.cell? ⟨b, 3, none⟩ = some v3 ∧ w.cell? ⟨b, 4, none⟩ = some v4 ∧ w.cell? ⟨b, 5, none⟩ = some v5 ∧ w.cell? ⟨b, 6, none⟩ = some v6 ∧ w.cell? ⟨b, 7, none⟩ = some v7 := ⟨h.1, h.2.1, h.2.2.1, h.2.2.2.1, h.2.2.2.2.1, h.2.2.2.2.2.1, h.2.2.2.2.2.2.1, h.2.2.2.2.2.2.2.1, h.2.2.2.2.2.2.2.2.1⟩
theorem Box.mk8 {w : World} {b : Nat} {v0 v1 v2 v3 v4 v5 v6 v7 : Value} (h : b < w.heap.size) (h0 : w.cell? ⟨b, 0, none⟩ = some v0) (h1 : w.cell? ⟨b, 1, none⟩ = some v1) (h2 : w.cell? ⟨b, 2, none⟩ = some v2) (h3 : w.cell? ⟨b, 3, none⟩ = some v3) (h4 : w.cell? ⟨b, 4, none⟩ = some v4) (h5 : w.cell? ⟨b, 5, none⟩ = some v5) (h6 : w.cell? ⟨b, 6, none⟩ = some v6) (h7 : w.cell? ⟨b, 7, none⟩ = some v7) : Box w b [v0, v1, v2, v3, v4, v5, v6, v7] := ⟨h, h0, h1, h2, h3, h4, h5, h6, h7, trivial⟩
theorem Box.open9 {w : World} {b : Nat} {v0 v1 v2 v3 v4 v5 v6 v7 v8 : Value} (h : Box w b [v0, v1, v2, v3, v4, v5, v6, v7, v8]) : b < w.heap.size ∧ w.cell? ⟨b, 0, none⟩ = some v0 ∧ w.cell? ⟨b, 1, none⟩ = some v1 ∧ w.cell? ⟨b, 2, none⟩ = some v2 ∧ w.cell? ⟨b, 3, none⟩ = some v3 ∧ w.cell? ⟨b, 4, none⟩ = some v4 ∧ w.cell? ⟨b, 5, none⟩ = some v5 ∧ w.cell? ⟨b, 6, none⟩ = some v6 ∧ w.cell? ⟨b, 7, none⟩ = some v7 ∧ w.cell? ⟨b, 8, none⟩ = some v8 := ⟨h.1, h.2.1, h.2.2.1, h.2.2.2.1, h.2.2.2.2.1, h.2.2.2.2.2.1, h.2.2.2.2.2.2.1, h.2.2.2.2.2.2.2.1, h.2.2.2.2.2.2.2.2.1, h.2.2.2.2.2.2.2.2.2.1⟩
theorem Box.mk9 {w : World} {b : Nat} {v0 v1 v2 v3 v4 v5 v6 v7 v8 : Value} (h : b < w.heap.size) (h0 : w.cell? ⟨b, 0, none⟩ = some v0) (h1 : w.cell? ⟨b, 1, none⟩ = some v1) (h2 : w.cell? ⟨b, 2, none⟩ = some v2) (h3 : w.cell? ⟨b, 3, none⟩ = some v3) (h4 : w.cell? ⟨b, 4, none⟩ = some v4) (h5 : w.cell? ⟨b, 5, none⟩ = some v5) (h6 : w.cell? ⟨b, 6, none⟩ = some v6) (h7 : w.cell? ⟨b, 7, none⟩ = some v7) (h8 : w.cell? ⟨b, 8, none⟩ = some v8) : Box w b [v0, v1, v2, v3, v4, v5, v6, v7, v8] := ⟨h, h0, h1, h2, h3, h4, h5, h6, h7, h8, trivial⟩
/-- A struct with rows of the callee's own was made; f: the value around the rows. -/
def MadeImage (f : Value → Value) (n0 : Nat) (cs0 : List Value) (w : World) (e : Ending) (w' : World) : Prop :=
  ∃ A0 c0, e = .returned (f (.slice A0 n0 c0)) ∧ OwnS w' 1 A0 n0 c0 3 cs0 ∧ (∀ x, x ∈ gOf A0 → w.heap.size ≤ x) ∧ Below w.heap.size w w'
/-- A struct with rows of the callee's own was made; f: the value around the rows. -/
def MadeFilm (f : Value → Value → Value) (n0 : Nat) (cs0 : List Value) (n1 : Nat) (cs1 : List Value) (w : World) (e : Ending) (w' : World) : Prop :=
  ∃ A0 c0 A1 c1, e = .returned (f (.slice A0 n0 c0) (.slice A1 n1 c1)) ∧ OwnS w' 1 A0 n0 c0 3 cs0 ∧ OwnS w' 1 A1 n1 c1 4 cs1 ∧ (∀ x, x ∈ gOf A0 → w.heap.size ≤ x) ∧ (∀ x, x ∈ gOf A1 → w.heap.size ≤ x) ∧ (∀ x, x ∈ gOf A0 → x ∉ gOf A1) ∧ Below w.heap.size w w'
/-- A struct with rows of the callee's own was made; f: the value around the rows. -/
def MadeAccum (f : Value → Value → Value) (n0 : Nat) (cs0 : List Value) (n1 : Nat) (cs1 : List Value) (w : World) (e : Ending) (w' : World) : Prop :=
  ∃ A0 c0 A1 c1, e = .returned (f (.slice A0 n0 c0) (.slice A1 n1 c1)) ∧ OwnS w' 1 A0 n0 c0 3 cs0 ∧ OwnS w' 1 A1 n1 c1 3 cs1 ∧ (∀ x, x ∈ gOf A0 → w.heap.size ≤ x) ∧ (∀ x, x ∈ gOf A1 → w.heap.size ≤ x) ∧ (∀ x, x ∈ gOf A0 → x ∉ gOf A1) ∧ Below w.heap.size w w'
/-- A struct with rows of the callee's own was made; f: the value around the rows. -/
def MadeTexture (f : Value → Value) (n0 : Nat) (cs0 : List Value) (w : World) (e : Ending) (w' : World) : Prop :=
  ∃ A0 c0, e = .returned (f (.slice A0 n0 c0)) ∧ OwnS w' 1 A0 n0 c0 3 cs0 ∧ (∀ x, x ∈ gOf A0 → w.heap.size ≤ x) ∧ Below w.heap.size w w'
/-- A struct with rows of the callee's own was made; f: the value around the rows. -/
def MadeLogged (f : Value → Value) (n0 : Nat) (cs0 : List Value) (w : World) (e : Ending) (w' : World) : Prop :=
  ∃ A0 c0, e = .returned (f (.slice A0 n0 c0)) ∧ OwnS w' 1 A0 n0 c0 3 cs0 ∧ (∀ x, x ∈ gOf A0 → w.heap.size ≤ x) ∧ Below w.heap.size w w'
end Go.Proofs.Ythpanpedoeghoaa
