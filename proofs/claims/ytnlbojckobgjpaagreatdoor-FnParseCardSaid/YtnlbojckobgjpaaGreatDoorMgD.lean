/- Several texts in one: Bools, Recs, Flat, Pairs, Camera, Marks, Made, Divs. -/
import Derived.Test.YtnlbojckobgjpaaGreatDoorMgA
import Derived.Test.YtnlbojckobgjpaaGreatDoorRows
import Derived.Deep.RegionHeld3
import Derived.StillTailTactics
/- MADE BY PROGRAM (genbools.py) out of the text on bools. The laws' own helpers on slices of bools: szBoolS, toBoolS, eqBoolS. -/
set_option linter.unusedVariables false
set_option linter.unusedSimpArgs false
namespace Go.Proofs.YtnlbojckobgjpaaGreatDoor
open Go.RowKit
end Go.Proofs.YtnlbojckobgjpaaGreatDoor

/- MADE BY PROGRAM (genrow.py). Structs of ints with slices of ints and bools: the laws' szX, toX, eqX (on equal fields); an argument of that type. -/
namespace Go.Proofs.YtnlbojckobgjpaaGreatDoor
open Go.ChangeShapes Go.WideShapes Go.ChangeAt Go.RowKit
def szF2 (left : Int) (n m : Nat) : Int := if szF left n < 0 then -1 else szF (szF left n) m
theorem szF_or (left : Int) (n : Nat) : szF left n = -1 ∨ (0 ≤ szF left n ∧ szF left n ≤ left ∧ n ≤ left) := by
  rcases Int.lt_or_le left n with h | h
  · exact .inl (szF_big h)
  · have := szF_small h; exact .inr ⟨this.1, this.2, h⟩
theorem szF2_or (left : Int) (n m : Nat) : szF2 left n m = -1 ∨ (0 ≤ szF2 left n m ∧ szF2 left n m ≤ left ∧ n ≤ left ∧ m ≤ left) := by
  unfold szF2
  rcases szF_or left n with h | ⟨h1, h2, h3⟩
  · rw [h]; exact .inl rfl
  · rw [if_neg (by omega)]
    rcases szF_or (szF left n) m with h | ⟨h4, h5, h6⟩
    · exact .inl h
    · exact .inr ⟨h4, by omega, h3, by omega⟩
abbrev vImage (x0 x1 : Int) (s0 : Value) : Value := .agg #[.int .i64 x0, .int .i64 x1, s0]
abbrev vFilm (x0 x1 : Int) (s0 s1 : Value) : Value := .agg #[.int .i64 x0, .int .i64 x1, s0, s1]
abbrev vAccum (x0 x1 : Int) (s0 s1 : Value) : Value := .agg #[.int .i64 x0, .int .i64 x1, s0, s1]
abbrev vTexture (x0 : Int) (s0 : Value) : Value := .agg #[.int .i64 x0, s0]
abbrev vLogged (x0 : Int) (s0 : Value) : Value := .agg #[.int .i64 x0, s0]
end Go.Proofs.YtnlbojckobgjpaaGreatDoor

/- MADE BY PROGRAM (genflat.py). Flat structs: the laws' toX; eqX on equal arguments. -/
namespace Go.Proofs.YtnlbojckobgjpaaGreatDoor
open Go.RowKit
end Go.Proofs.YtnlbojckobgjpaaGreatDoor

/- MADE BY PROGRAM (genpairs.py). Slices of flat structs of ints as lists of tuples: the laws' szTS, toTS, eqTS (on equal lists); an argument of such a type. -/
namespace Go.Proofs.YtnlbojckobgjpaaGreatDoor
open Go.ChangeShapes Go.WideShapes Go.ChangeAt Go.RowKit
/-- The cells of a list of structs, one behind the other. -/
def rowOf {α : Type} (f : α → List Value) (l : List α) : List Value := l.flatMap f
theorem rowOf_len {α : Type} {f : α → List Value} {s : Nat} (hf : ∀ a, (f a).length = s) (l : List α) : (rowOf f l).length = l.length * s := by
  unfold rowOf
  induction l with
  | nil => simp
  | cons a l ih => rw [List.flatMap_cons, List.length_append, hf, ih, List.length_cons, Nat.succ_mul, Nat.add_comm]
theorem rowOf_at {α : Type} {f : α → List Value} {s : Nat} (hf : ∀ a, (f a).length = s) : ∀ (l : List α) (k j : Nat) (hk : k < l.length) (_ : j < s), (rowOf f l)[k * s + j]? = (f l[k])[j]?
  | [], k, j, hk, _ => absurd hk (by simp)
  | a :: l, 0, j, hk, hj => by
    show (a :: l |>.flatMap f)[0 * s + j]? = _
    rw [List.flatMap_cons, List.getElem?_append_left (by rw [hf]; omega), Nat.zero_mul, Nat.zero_add]
    rfl
  | a :: l, k + 1, j, hk, hj => by
    show (a :: l |>.flatMap f)[(k + 1) * s + j]? = _
    rw [List.flatMap_cons, List.getElem?_append_right (by rw [hf, Nat.succ_mul]; omega), hf, Nat.succ_mul, show k * s + s + j - s = k * s + j by omega]
    exact rowOf_at hf l k j (by simpa using hk) hj
/-- Filled up to element k. -/
def FillR (s : Nat) (xs cs : List Value) (n k : Nat) : Prop := cs.length = n * s ∧ ∀ j, j < k * s → cs[j]? = xs[j]?
theorem FillR.succ {s n k : Nat} {xs cs cs' : List Value} (h : FillR s xs cs n k) (hl : cs'.length = cs.length) (h1 : ∀ j, j < k * s → cs'[j]? = cs[j]?) (h2 : ∀ j, j < s → cs'[k * s + j]? = xs[k * s + j]?) : FillR s xs cs' n (k + 1) := by
  refine ⟨hl.trans h.1, fun j hj => ?_⟩
  rw [Nat.succ_mul] at hj
  by_cases e : j < k * s
  · rw [h1 j e, h.2 j e]
  · have := h2 (j - k * s) (by omega)
    rwa [show k * s + (j - k * s) = j by omega] at this
theorem FillR.whole {s n : Nat} {xs cs : List Value} (h : FillR s xs cs n n) (hx : xs.length = n * s) : cs = xs := by
  apply List.ext_getElem?
  intro j
  by_cases hj : j < n * s
  · exact h.2 j hj
  · rw [List.getElem?_eq_none (by rw [h.1]; omega), List.getElem?_eq_none (by omega)]
abbrev EDeepStep : Type := Int × Int
def cDeepStep (p : EDeepStep) : List Value := [.int .i64 p.1, .int .i64 p.2]
abbrev rDeepStep (l : List EDeepStep) : List Value := rowOf cDeepStep l
theorem rDeepStep_len (l : List EDeepStep) : (rDeepStep l).length = l.length * 2 := rowOf_len (f := cDeepStep) (s := 2) (fun _ => rfl) l
theorem rDeepStep_at {l : List EDeepStep} {k : Nat} (hk : k < l.length) : (rDeepStep l)[k * 2]? = some (.int .i64 l[k].1) ∧ (rDeepStep l)[k * 2 + 1]? = some (.int .i64 l[k].2) := by
  have h := rowOf_at (f := cDeepStep) (s := 2) (fun _ => rfl) l k
  exact ⟨h 0 hk (by omega), h 1 hk (by omega)⟩
abbrev EBucket : Type := Int × Int × Int × Int
def cBucket (p : EBucket) : List Value := [.int .i64 p.1, .int .i64 p.2.1, .int .i64 p.2.2.1, .int .i64 p.2.2.2]
abbrev rBucket (l : List EBucket) : List Value := rowOf cBucket l
theorem rBucket_len (l : List EBucket) : (rBucket l).length = l.length * 4 := rowOf_len (f := cBucket) (s := 4) (fun _ => rfl) l
theorem rBucket_at {l : List EBucket} {k : Nat} (hk : k < l.length) : (rBucket l)[k * 4]? = some (.int .i64 l[k].1) ∧ (rBucket l)[k * 4 + 1]? = some (.int .i64 l[k].2.1) ∧ (rBucket l)[k * 4 + 2]? = some (.int .i64 l[k].2.2.1) ∧ (rBucket l)[k * 4 + 3]? = some (.int .i64 l[k].2.2.2) := by
  have h := rowOf_at (f := cBucket) (s := 4) (fun _ => rfl) l k
  exact ⟨h 0 hk (by omega), h 1 hk (by omega), h 2 hk (by omega), h 3 hk (by omega)⟩
abbrev EFragment : Type := Int × Int × Int × Int × Int
def cFragment (p : EFragment) : List Value := [.int .i64 p.1, .int .i64 p.2.1, .int .i64 p.2.2.1, .int .i64 p.2.2.2.1, .int .i64 p.2.2.2.2]
abbrev rFragment (l : List EFragment) : List Value := rowOf cFragment l
theorem rFragment_len (l : List EFragment) : (rFragment l).length = l.length * 5 := rowOf_len (f := cFragment) (s := 5) (fun _ => rfl) l
theorem rFragment_at {l : List EFragment} {k : Nat} (hk : k < l.length) : (rFragment l)[k * 5]? = some (.int .i64 l[k].1) ∧ (rFragment l)[k * 5 + 1]? = some (.int .i64 l[k].2.1) ∧ (rFragment l)[k * 5 + 2]? = some (.int .i64 l[k].2.2.1) ∧ (rFragment l)[k * 5 + 3]? = some (.int .i64 l[k].2.2.2.1) ∧ (rFragment l)[k * 5 + 4]? = some (.int .i64 l[k].2.2.2.2) := by
  have h := rowOf_at (f := cFragment) (s := 5) (fun _ => rfl) l k
  exact ⟨h 0 hk (by omega), h 1 hk (by omega), h 2 hk (by omega), h 3 hk (by omega), h 4 hk (by omega)⟩
end Go.Proofs.YtnlbojckobgjpaaGreatDoor

/- Cameras: IsValidCamera of the reference and of the program; inImage. -/
namespace Go.Proofs.YtnlbojckobgjpaaGreatDoor
open Go.ChangeShapes Go.WideShapes Go.ChangeAt Go.RowKit
abbrev vCamera (a b c d : Int) (e : Bool) (f g : Int) : Value := .agg #[.int .i64 a, .int .i64 b, .int .i64 c, .int .i64 d, .bool e, .int .i64 f, .int .i64 g]
def validCam (a b c d f g : Int) : Bool := inB a 1 12 && (inB b 1 12 && (inB c 1 65536 && (inB d 1 1000000 && (inB f 0 64 && inB g 0 1000000))))
theorem validCam_true {a b c d f g : Int} (h : validCam a b c d f g = true) : (1 ≤ a ∧ a ≤ 12) ∧ (1 ≤ b ∧ b ≤ 12) ∧ (1 ≤ c ∧ c ≤ 65536) ∧ (1 ≤ d ∧ d ≤ 1000000) ∧ (0 ≤ f ∧ f ≤ 64) ∧ (0 ≤ g ∧ g ≤ 1000000) := by
  simp only [validCam, Bool.and_eq_true] at h
  obtain ⟨h1, h2, h3, h4, h5, h6⟩ := h
  exact ⟨inB_true h1, inB_true h2, inB_true h3, inB_true h4, inB_true h5, inB_true h6⟩
end Go.Proofs.YtnlbojckobgjpaaGreatDoor

/- MADE BY PROGRAM (genmarks.py). The laws' marks in rows of bools and of flat structs of ints. -/
namespace Go.Proofs.YtnlbojckobgjpaaGreatDoor
open Go.RowKit
/-- The marks of a row of bools. -/
def thirds (k : Int) (n : Nat) : List Bool := (List.range n).map (fun (i : Nat) => decide ((k + i) % 3 = 0))
theorem thirds_len (k : Int) (n : Nat) : (thirds k n).length = n := by simp [thirds]
theorem thirds_at {k : Int} {n i : Nat} (h : i < n) : (bools (thirds k n))[i]? = some (.bool (decide ((k + i) % 3 = 0))) := by simp [thirds, h]
/-- Marked up to cell i, cells xs at last. -/
def MarkedC (xs cs : List Value) (i : Nat) : Prop := cs.length = xs.length ∧ ∀ j, j < i → cs[j]? = xs[j]?
theorem MarkedC.succ {xs cs : List Value} {i : Nat} {v : Value} (h : MarkedC xs cs i) (hv : xs[i]? = some v) : MarkedC xs (cs.set i v) (i + 1) := by
  have hi : i < xs.length := by
    rcases Nat.lt_or_ge i xs.length with h | h
    · exact h
    · rw [List.getElem?_eq_none h] at hv; cases hv
  refine ⟨by rw [List.length_set]; exact h.1, fun j hj => ?_⟩
  by_cases e : i = j
  · subst e; rw [List.getElem?_set_self (by rw [h.1]; exact hi), hv]
  · rw [List.getElem?_set_ne e]; exact h.2 j (by omega)
theorem MarkedC.all {xs cs : List Value} {i : Nat} (h : MarkedC xs cs i) (hi : xs.length ≤ i) : cs = xs := by
  apply List.ext_getElem?
  intro j
  by_cases hj : j < xs.length
  · exact h.2 j (by omega)
  · rw [List.getElem?_eq_none (by rw [h.1]; omega), List.getElem?_eq_none (by omega)]
theorem upFrom_cell {k : Int} {N i : Nat} (h : i < N) : (ints (upFrom k N))[i]? = some (.int .i64 (k + i)) := upFrom_at h
end Go.Proofs.YtnlbojckobgjpaaGreatDoor

/- MADE BY PROGRAM (genmade.py). What makers of rows and of structs with rows leave; the laws' toX, markX, heldX in these words. -/
namespace Go.Proofs.YtnlbojckobgjpaaGreatDoor
open Go.RowKit
/-- A row of the callee's own was made. -/
def MadeRow (t : TypeId) (sz n : Nat) (cs : List Value) (w : World) (e : Ending) (w' : World) : Prop :=
  ∃ A c, e = .returned (.slice A n c) ∧ OwnS w' sz A n c t cs ∧ (∀ x, x ∈ gOf A → w.heap.size ≤ x) ∧ Below w.heap.size w w'
theorem own_row {w w' : World} {t : TypeId} {sz n : Nat} {cs : List Value} {g : Nat} (h : Own w' g t cs) (hl : cs.length = n * sz) (hn : n ≤ 1048576) (hg : w.heap.size ≤ g) (hb : Below w.heap.size w w') : MadeRow t sz n cs w (.returned (sl g n)) w' :=
  ⟨_, _, rfl, OwnS.some_ h hl hn, fun x hx => by simp [gOf] at hx; omega, hb⟩
theorem Grow.made {w w' : World} {t : TypeId} {sz n c : Nat} {A : Option Addr} {cs : List Value} {base : Nat} (h : Grow w' base t sz A n c cs) (hb : w.heap.size ≤ base) (hB : Below w.heap.size w w') : MadeRow t sz n cs w (.returned (.slice A n c)) w' :=
  ⟨_, _, rfl, h.ownS, fun x hx => Nat.le_trans hb (h.ge x hx), hB⟩
theorem MadeRow.none_ (w : World) (t : TypeId) (sz : Nat) {w' : World} (hB : Below w.heap.size w w') : MadeRow t sz 0 [] w (.returned (.slice none 0 0)) w' :=
  ⟨none, 0, rfl, OwnS.none_ _ _ _, fun x hx => absurd hx (by simp [gOf]), hB⟩
theorem Own.at_lit {w : World} {t : TypeId} {g : Nat} {l : List Value} (hg : g = w.heap.size) : Own (w.alloc (.cells l.toArray t)) g t l := by subst hg; exact Own.new w t l.toArray
/-- A local variable's box. -/
def CellsAt (w : World) (b : Nat) : Nat → List Value → Prop
  | _, [] => True
  | i, v :: l => w.cell? ⟨b, i, none⟩ = some v ∧ CellsAt w b (i + 1) l
def Box (w : World) (b : Nat) (cs : List Value) : Prop := b < w.heap.size ∧ CellsAt w b 0 cs
theorem CellsAt.same {w w' : World} {b : Nat} (h : ∀ o, w'.cell? ⟨b, o, none⟩ = w.cell? ⟨b, o, none⟩) : ∀ (i : Nat) (cs : List Value), CellsAt w b i cs → CellsAt w' b i cs
  | _, [], _ => trivial
  | i, v :: l, hc => ⟨(h i).trans hc.1, CellsAt.same h (i + 1) l hc.2⟩
theorem Box.step {w w' : World} {b : Nat} {cs : List Value} (hb : Below w.heap.size w w') (h : Box w b cs) : Box w' b cs := ⟨Nat.lt_of_lt_of_le h.1 hb.size, CellsAt.same (fun o => hb.cell (p := ⟨b, o, none⟩) h.1) 0 cs h.2⟩
theorem Box.only {w w' : World} {B : Nat} {G : List Nat} {b : Nat} {cs : List Value} (hO : Only B G w w') (h : Box w b cs) (hB : b < B) (hG : b ∉ G) : Box w' b cs := ⟨Nat.lt_of_lt_of_le h.1 hO.size, CellsAt.same (hO.cell b hB hG).1 0 cs h.2⟩
theorem CellsAt.of_own {w : World} {b : Nat} {t : TypeId} {es : List Value} (h : Own w b t es) : ∀ (i : Nat) (cs : List Value), (∀ j, j < cs.length → es[i + j]? = cs[j]?) → CellsAt w b i cs
  | _, [], _ => trivial
  | i, v :: l, hc => ⟨by rw [h.cell]; have := hc 0 (by simp); simpa using this, CellsAt.of_own h (i + 1) l (fun j hj => by have := hc (j + 1) (by simpa using hj); rw [Nat.add_assoc, Nat.add_comm 1 j]; simpa using this)⟩
theorem Box.of_own {w : World} {b : Nat} {t : TypeId} {cs : List Value} (h : Own w b t cs) : Box w b cs := ⟨h.lt, CellsAt.of_own h 0 cs (fun j _ => by rw [Nat.zero_add])⟩
theorem Box.lt {w : World} {b : Nat} {cs : List Value} (h : Box w b cs) : b < w.heap.size := h.1
theorem Box.open1 {w : World} {b : Nat} {v0 : Value} (h : Box w b [v0]) : b < w.heap.size ∧ w.cell? ⟨b, 0, none⟩ = some v0 := ⟨h.1, h.2.1⟩
theorem Box.mk1 {w : World} {b : Nat} {v0 : Value} (h : b < w.heap.size) (h0 : w.cell? ⟨b, 0, none⟩ = some v0) : Box w b [v0] := ⟨h, h0, trivial⟩
theorem Box.open2 {w : World} {b : Nat} {v0 v1 : Value} (h : Box w b [v0, v1]) : b < w.heap.size ∧ w.cell? ⟨b, 0, none⟩ = some v0 ∧ w.cell? ⟨b, 1, none⟩ = some v1 := ⟨h.1, h.2.1, h.2.2.1⟩
theorem Box.mk2 {w : World} {b : Nat} {v0 v1 : Value} (h : b < w.heap.size) (h0 : w.cell? ⟨b, 0, none⟩ = some v0) (h1 : w.cell? ⟨b, 1, none⟩ = some v1) : Box w b [v0, v1] := ⟨h, h0, h1, trivial⟩
theorem Box.open3 {w : World} {b : Nat} {v0 v1 v2 : Value} (h : Box w b [v0, v1, v2]) : b < w.heap.size ∧ w.cell? ⟨b, 0, none⟩ = some v0 ∧ w.cell? ⟨b, 1, none⟩ = some v1 ∧ w.cell? ⟨b, 2, none⟩ = some v2 := ⟨h.1, h.2.1, h.2.2.1, h.2.2.2.1⟩
theorem Box.mk3 {w : World} {b : Nat} {v0 v1 v2 : Value} (h : b < w.heap.size) (h0 : w.cell? ⟨b, 0, none⟩ = some v0) (h1 : w.cell? ⟨b, 1, none⟩ = some v1) (h2 : w.cell? ⟨b, 2, none⟩ = some v2) : Box w b [v0, v1, v2] := ⟨h, h0, h1, h2, trivial⟩
theorem Box.open4 {w : World} {b : Nat} {v0 v1 v2 v3 : Value} (h : Box w b [v0, v1, v2, v3]) : b < w.heap.size ∧ w.cell? ⟨b, 0, none⟩ = some v0 ∧ w.cell? ⟨b, 1, none⟩ = some v1 ∧ w.cell? ⟨b, 2, none⟩ = some v2 ∧ w.cell? ⟨b, 3, none⟩ = some v3 := ⟨h.1, h.2.1, h.2.2.1, h.2.2.2.1, h.2.2.2.2.1⟩
theorem Box.mk4 {w : World} {b : Nat} {v0 v1 v2 v3 : Value} (h : b < w.heap.size) (h0 : w.cell? ⟨b, 0, none⟩ = some v0) (h1 : w.cell? ⟨b, 1, none⟩ = some v1) (h2 : w.cell? ⟨b, 2, none⟩ = some v2) (h3 : w.cell? ⟨b, 3, none⟩ = some v3) : Box w b [v0, v1, v2, v3] := ⟨h, h0, h1, h2, h3, trivial⟩
theorem Box.open5 {w : World} {b : Nat} {v0 v1 v2 v3 v4 : Value} (h : Box w b [v0, v1, v2, v3, v4]) : b < w.heap.size ∧ w.cell? ⟨b, 0, none⟩ = some v0 ∧ w.cell? ⟨b, 1, none⟩ = some v1 ∧ w.cell? ⟨b, 2, none⟩ = some v2 ∧ w.cell? ⟨b, 3, none⟩ = some v3 ∧ w.cell? ⟨b, 4, none⟩ = some v4 := ⟨h.1, h.2.1, h.2.2.1, h.2.2.2.1, h.2.2.2.2.1, h.2.2.2.2.2.1⟩
theorem Box.mk5 {w : World} {b : Nat} {v0 v1 v2 v3 v4 : Value} (h : b < w.heap.size) (h0 : w.cell? ⟨b, 0, none⟩ = some v0) (h1 : w.cell? ⟨b, 1, none⟩ = some v1) (h2 : w.cell? ⟨b, 2, none⟩ = some v2) (h3 : w.cell? ⟨b, 3, none⟩ = some v3) (h4 : w.cell? ⟨b, 4, none⟩ = some v4) : Box w b [v0, v1, v2, v3, v4] := ⟨h, h0, h1, h2, h3, h4, trivial⟩
theorem Box.open6 {w : World} {b : Nat} {v0 v1 v2 v3 v4 v5 : Value} (h : Box w b [v0, v1, v2, v3, v4, v5]) : b < w.heap.size ∧ w.cell? ⟨b, 0, none⟩ = some v0 ∧ w.cell? ⟨b, 1, none⟩ = some v1 ∧ w.cell? ⟨b, 2, none⟩ = some v2 ∧ w.cell? ⟨b, 3, none⟩ = some v3 ∧ w.cell? ⟨b, 4, none⟩ = some v4 ∧ w.cell? ⟨b, 5, none⟩ = some v5 := ⟨h.1, h.2.1, h.2.2.1, h.2.2.2.1, h.2.2.2.2.1, h.2.2.2.2.2.1, h.2.2.2.2.2.2.1⟩
theorem Box.mk6 {w : World} {b : Nat} {v0 v1 v2 v3 v4 v5 : Value} (h : b < w.heap.size) (h0 : w.cell? ⟨b, 0, none⟩ = some v0) (h1 : w.cell? ⟨b, 1, none⟩ = some v1) (h2 : w.cell? ⟨b, 2, none⟩ = some v2) (h3 : w.cell? ⟨b, 3, none⟩ = some v3) (h4 : w.cell? ⟨b, 4, none⟩ = some v4) (h5 : w.cell? ⟨b, 5, none⟩ = some v5) : Box w b [v0, v1, v2, v3, v4, v5] := ⟨h, h0, h1, h2, h3, h4, h5, trivial⟩
theorem Box.open7 {w : World} {b : Nat} {v0 v1 v2 v3 v4 v5 v6 : Value} (h : Box w b [v0, v1, v2, v3, v4, v5, v6]) : b < w.heap.size ∧ w.cell? ⟨b, 0, none⟩ = some v0 ∧ w.cell? ⟨b, 1, none⟩ = some v1 ∧ w.cell? ⟨b, 2, none⟩ = some v2 ∧ w.cell? ⟨b, 3, none⟩ = some v3 ∧ w.cell? ⟨b, 4, none⟩ = some v4 ∧ w.cell? ⟨b, 5, none⟩ = some v5 ∧ w.cell? ⟨b, 6, none⟩ = some v6 := ⟨h.1, h.2.1, h.2.2.1, h.2.2.2.1, h.2.2.2.2.1, h.2.2.2.2.2.1, h.2.2.2.2.2.2.1, h.2.2.2.2.2.2.2.1⟩
theorem Box.mk7 {w : World} {b : Nat} {v0 v1 v2 v3 v4 v5 v6 : Value} (h : b < w.heap.size) (h0 : w.cell? ⟨b, 0, none⟩ = some v0) (h1 : w.cell? ⟨b, 1, none⟩ = some v1) (h2 : w.cell? ⟨b, 2, none⟩ = some v2) (h3 : w.cell? ⟨b, 3, none⟩ = some v3) (h4 : w.cell? ⟨b, 4, none⟩ = some v4) (h5 : w.cell? ⟨b, 5, none⟩ = some v5) (h6 : w.cell? ⟨b, 6, none⟩ = some v6) : Box w b [v0, v1, v2, v3, v4, v5, v6] := ⟨h, h0, h1, h2, h3, h4, h5, h6, trivial⟩
theorem Box.open8 {w : World} {b : Nat} {v0 v1 v2 v3 v4 v5 v6 v7 : Value} (h : Box w b [v0, v1, v2, v3, v4, v5, v6, v7]) : b < w.heap.size ∧ w.cell? ⟨b, 0, none⟩ = some v0 ∧ w.cell? ⟨b, 1, none⟩ = some v1 ∧ w.cell? ⟨b, 2, none⟩ = some v2 ∧ w.cell? ⟨b, 3, none⟩ = some v3 ∧ w.cell? ⟨b, 4, none⟩ = some v4 ∧ w.cell? ⟨b, 5, none⟩ = some v5 ∧ w.cell? ⟨b, 6, none⟩ = some v6 ∧ w.cell? ⟨b, 7, none⟩ = some v7 := ⟨h.1, h.2.1, h.2.2.1, h.2.2.2.1, h.2.2.2.2.1, h.2.2.2.2.2.1, h.2.2.2.2.2.2.1, h.2.2.2.2.2.2.2.1, h.2.2.2.2.2.2.2.2.1⟩
theorem Box.mk8 {w : World} {b : Nat} {v0 v1 v2 v3 v4 v5 v6 v7 : Value} (h : b < w.heap.size) (h0 : w.cell? ⟨b, 0, none⟩ = some v0) (h1 : w.cell? ⟨b, 1, none⟩ = some v1) (h2 : w.cell? ⟨b, 2, none⟩ = some v2) (h3 : w.cell? ⟨b, 3, none⟩ = some v3) (h4 : w.cell? ⟨b, 4, none⟩ = some v4) (h5 : w.cell? ⟨b, 5, none⟩ = some v5) (h6 : w.cell? ⟨b, 6, none⟩ = some v6) (h7 : w.cell? ⟨b, 7, none⟩ = some v7) : Box w b [v0, v1, v2, v3, v4, v5, v6, v7] := ⟨h, h0, h1, h2, h3, h4, h5, h6, h7, trivial⟩
theorem Box.open9 {w : World} {b : Nat} {v0 v1 v2 v3 v4 v5 v6 v7 v8 : Value} (h : Box w b [v0, v1, v2, v3, v4, v5, v6, v7, v8]) : b < w.heap.size ∧ w.cell? ⟨b, 0, none⟩ = some v0 ∧ w.cell? ⟨b, 1, none⟩ = some v1 ∧ w.cell? ⟨b, 2, none⟩ = some v2 ∧ w.cell? ⟨b, 3, none⟩ = some v3 ∧ w.cell? ⟨b, 4, none⟩ = some v4 ∧ w.cell? ⟨b, 5, none⟩ = some v5 ∧ w.cell? ⟨b, 6, none⟩ = some v6 ∧ w.cell? ⟨b, 7, none⟩ = some v7 ∧ w.cell? ⟨b, 8, none⟩ = some v8 := ⟨h.1, h.2.1, h.2.2.1, h.2.2.2.1, h.2.2.2.2.1, h.2.2.2.2.2.1, h.2.2.2.2.2.2.1, h.2.2.2.2.2.2.2.1, h.2.2.2.2.2.2.2.2.1, h.2.2.2.2.2.2.2.2.2.1⟩
theorem Box.mk9 {w : World} {b : Nat} {v0 v1 v2 v3 v4 v5 v6 v7 v8 : Value} (h : b < w.heap.size) (h0 : w.cell? ⟨b, 0, none⟩ = some v0) (h1 : w.cell? ⟨b, 1, none⟩ = some v1) (h2 : w.cell? ⟨b, 2, none⟩ = some v2) (h3 : w.cell? ⟨b, 3, none⟩ = some v3) (h4 : w.cell? ⟨b, 4, none⟩ = some v4) (h5 : w.cell? ⟨b, 5, none⟩ = some v5) (h6 : w.cell? ⟨b, 6, none⟩ = some v6) (h7 : w.cell? ⟨b, 7, none⟩ = some v7) (h8 : w.cell? ⟨b, 8, none⟩ = some v8) : Box w b [v0, v1, v2, v3, v4, v5, v6, v7, v8] := ⟨h, h0, h1, h2, h3, h4, h5, h6, h7, h8, trivial⟩
/-- A struct with rows of the callee's own was made; f: the value around the rows. -/
def MadeImage (f : Value → Value) (n0 : Nat) (cs0 : List Value) (w : World) (e : Ending) (w' : World) : Prop :=
  ∃ A0 c0, e = .returned (f (.slice A0 n0 c0)) ∧ OwnS w' 1 A0 n0 c0 3 cs0 ∧ (∀ x, x ∈ gOf A0 → w.heap.size ≤ x) ∧ Below w.heap.size w w'
/-- A struct with rows of the callee's own was made; f: the value around the rows. -/
def MadeFilm (f : Value → Value → Value) (n0 : Nat) (cs0 : List Value) (n1 : Nat) (cs1 : List Value) (w : World) (e : Ending) (w' : World) : Prop :=
  ∃ A0 c0 A1 c1, e = .returned (f (.slice A0 n0 c0) (.slice A1 n1 c1)) ∧ OwnS w' 1 A0 n0 c0 3 cs0 ∧ OwnS w' 1 A1 n1 c1 4 cs1 ∧ (∀ x, x ∈ gOf A0 → w.heap.size ≤ x) ∧ (∀ x, x ∈ gOf A1 → w.heap.size ≤ x) ∧ (∀ x, x ∈ gOf A0 → x ∉ gOf A1) ∧ Below w.heap.size w w'
/-- A struct with rows of the callee's own was made; f: the value around the rows. -/
def MadeAccum (f : Value → Value → Value) (n0 : Nat) (cs0 : List Value) (n1 : Nat) (cs1 : List Value) (w : World) (e : Ending) (w' : World) : Prop :=
  ∃ A0 c0 A1 c1, e = .returned (f (.slice A0 n0 c0) (.slice A1 n1 c1)) ∧ OwnS w' 1 A0 n0 c0 3 cs0 ∧ OwnS w' 1 A1 n1 c1 3 cs1 ∧ (∀ x, x ∈ gOf A0 → w.heap.size ≤ x) ∧ (∀ x, x ∈ gOf A1 → w.heap.size ≤ x) ∧ (∀ x, x ∈ gOf A0 → x ∉ gOf A1) ∧ Below w.heap.size w w'
/-- A struct with rows of the callee's own was made; f: the value around the rows. -/
def MadeTexture (f : Value → Value) (n0 : Nat) (cs0 : List Value) (w : World) (e : Ending) (w' : World) : Prop :=
  ∃ A0 c0, e = .returned (f (.slice A0 n0 c0)) ∧ OwnS w' 1 A0 n0 c0 3 cs0 ∧ (∀ x, x ∈ gOf A0 → w.heap.size ≤ x) ∧ Below w.heap.size w w'
/-- A struct with rows of the callee's own was made; f: the value around the rows. -/
def MadeLogged (f : Value → Value) (n0 : Nat) (cs0 : List Value) (w : World) (e : Ending) (w' : World) : Prop :=
  ∃ A0 c0, e = .returned (f (.slice A0 n0 c0)) ∧ OwnS w' 1 A0 n0 c0 3 cs0 ∧ (∀ x, x ∈ gOf A0 → w.heap.size ≤ x) ∧ Below w.heap.size w w'
end Go.Proofs.YtnlbojckobgjpaaGreatDoor

/- FloorDiv, floorMod; a hash of ints. -/
namespace Go.Proofs.YtnlbojckobgjpaaGreatDoor
open Go.RowKit
def fdivF (a b : Int) : Int := if b < 1 then 0 else a / b
theorem tdiv_neg {a b : Int} (ha : a < 0) (hb : 1 ≤ b) : a ≤ a.tdiv b ∧ a.tdiv b ≤ 0 ∧ -b < a.tmod b ∧ a.tmod b ≤ 0 ∧ (a.tmod b < 0 → a ≤ a.tdiv b - 1 ∧ a / b = a.tdiv b - 1) ∧ (¬ a.tmod b < 0 → a / b = a.tdiv b) := by
  have h1 := Int.mul_tdiv_add_tmod a b
  have h4 : a.tmod b ≤ 0 := by
    have := Int.tmod_nonneg (a := -a) b (by omega)
    rw [Int.neg_tmod] at this; omega
  have h5 : -b < a.tmod b := by
    have := Int.tmod_lt_of_pos (-a) (b := b) (by omega)
    rw [Int.neg_tmod] at this; omega
  have h3 : a.tdiv b ≤ 0 := by
    have := Int.tdiv_nonneg (a := -a) (b := b) (by omega) (by omega)
    rw [Int.neg_tdiv] at this; omega
  have h6 : b * a.tdiv b ≤ a.tdiv b := by
    have := Int.mul_le_mul_of_nonpos_right (a := b) (b := 1) (c := a.tdiv b) (by omega) h3
    omega
  have h7 : a ≤ a.tdiv b := by
    rcases Int.lt_or_le (a.tmod b) 0 with h | h
    · have hb2 : 2 ≤ b := by omega
      rcases Int.lt_or_le (a.tdiv b) 0 with hq | hq
      · have : b * a.tdiv b ≤ 2 * a.tdiv b := Int.mul_le_mul_of_nonpos_right hb2 h3
        omega
      · omega
    · omega
  refine ⟨h7, h3, h5, h4, fun h => ?_, fun h => ?_⟩
  · have hb2 : 2 ≤ b := by omega
    refine ⟨?_, ?_⟩
    · rcases Int.lt_or_le (a.tdiv b) 0 with hq | hq
      · have : b * a.tdiv b ≤ 2 * a.tdiv b := Int.mul_le_mul_of_nonpos_right hb2 h3
        omega
      · omega
    · have e : a = (a.tmod b + b) + b * (a.tdiv b - 1) := by rw [Int.mul_sub, Int.mul_one]; omega
      rw [e, Int.add_mul_ediv_left _ _ (by omega), Int.ediv_eq_zero_of_lt (by omega) (by omega)]
      rw [← e]; omega
  · have e : a = b * a.tdiv b := by omega
    have hd : b ∣ a := ⟨_, e⟩
    exact (Int.tdiv_eq_ediv_of_dvd hd).symm
theorem fdivF_neg {a b : Int} (ha : a < 0) (hb : 1 ≤ b) : (a.tmod b < 0 ∧ a ≤ a.tdiv b - 1 ∧ a.tdiv b ≤ 0 ∧ fdivF a b = a.tdiv b - 1) ∨ (¬ a.tmod b < 0 ∧ a ≤ a.tdiv b ∧ a.tdiv b ≤ 0 ∧ fdivF a b = a.tdiv b) := by
  obtain ⟨h1, h2, h3, h4, h5, h6⟩ := tdiv_neg ha hb
  have e : fdivF a b = a / b := by unfold fdivF; rw [if_neg (by omega)]
  by_cases h : a.tmod b < 0
  · exact .inl ⟨h, (h5 h).1, h2, e.trans (h5 h).2⟩
  · exact .inr ⟨h, h1, h2, e.trans (h6 h)⟩
theorem fdivF_rng {a b : Int} (hb : 1 ≤ b) : fdivF a b = a / b ∧ a - fdivF a b * b = a % b := by
  have e : fdivF a b = a / b := by unfold fdivF; rw [if_neg (by omega)]
  refine ⟨e, ?_⟩
  rw [e, Int.emod_def, Int.mul_comm]
theorem wrap_sub {a r : Int} (h1 : 0 ≤ r) (h2 : r ≤ 9223372036854775807) : wrap64 (a - wrap64 (a - r)) = r := by
  have hb : (2 : Int) ^ IntKind.i64.bits = 18446744073709551616 := rfl
  have hc : (2 : Int) ^ (IntKind.i64.bits - 1) = 9223372036854775808 := rfl
  have hs : IntKind.i64.signed = true := rfl
  simp only [wrap64]
  omega
/-- One step of the hash. -/
def hashStep (h x : Int) : Int := (31 * h + clampF x (-1000000000) 1000000000) % 1000003
def hashF (l : List Int) : Int := l.foldl hashStep 17
theorem clampF_rng (x : Int) : -1000000000 ≤ clampF x (-1000000000) 1000000000 ∧ clampF x (-1000000000) 1000000000 ≤ 1000000000 := by unfold clampF; (repeat' split) <;> omega
theorem hashStep_rng (h x : Int) : 0 ≤ hashStep h x ∧ hashStep h x < 1000003 := by unfold hashStep; omega
theorem hashF_rng (l : List Int) : 0 ≤ hashF l ∧ hashF l < 1000003 := by
  have key : ∀ (l : List Int) (h : Int), (0 ≤ h ∧ h < 1000003) → 0 ≤ l.foldl hashStep h ∧ l.foldl hashStep h < 1000003 := by
    intro l
    induction l with
    | nil => exact fun h hh => hh
    | cons x l ih => exact fun h _ => ih _ (hashStep_rng h x)
  exact key l 17 ⟨by decide, by decide⟩
theorem hashF_succ {l : List Int} {k : Nat} (h : k < l.length) : hashF (l.take (k + 1)) = hashStep (hashF (l.take k)) l[k] := by
  unfold hashF
  rw [List.take_succ_eq_append_getElem h, List.foldl_append]; rfl
end Go.Proofs.YtnlbojckobgjpaaGreatDoor
