/- Words for memory: slices that read as lists of cells, kept while the world grows. No program in sight. -/
import Derived.WalkKit
import Derived.WalkSpells
import Derived.WalkLawsBesides
import Derived.Lib.Hide
set_option linter.unusedVariables false
set_option linter.unusedSimpArgs false
set_option linter.unnecessarySimpa false
namespace Go.Proofs.Ythpanpedoeghoaa
open Go.RowKit

theorem ret_int {k : IntKind} {a b : Int} (h : a = b) : Ending.returned (.int k a) = .returned (.int k b) := by rw [h]
theorem ret_bool {a b : Bool} (h : a = b) : Ending.returned (.bool a) = .returned (.bool b) := by rw [h]

theorem ret_slice {b o o' n n' c c' : Nat} (h : o = o') (h2 : n = n') (h3 : c = c') : Ending.returned (.slice (some ⟨b, o, none⟩) n c) = .returned (.slice (some ⟨b, o', none⟩) n' c') := by rw [h, h2, h3]
theorem below_drewN {B : Nat} {a w : World} (h : Below B a w) (n : Nat) : Below B a (w.drewN n) := ⟨h.os, h.tape, h.output, h.size, h.block⟩
theorem Below.step {B : Nat} {a b c : World} (hb : Below b.heap.size b c) (h : Below B a b) (hs : B ≤ b.heap.size) : Below B a c := h.trans (hb.mono hs)
theorem lt_up2 {n m : Nat} (h : n < m) : n < m + 1 + 1 := by omega
theorem lt_up3 {n m : Nat} (h : n < m) : n < m + 1 + 1 + 1 := by omega
theorem lt_up4 {n m : Nat} (h : n < m) : n < m + 1 + 1 + 1 + 1 := by omega
theorem lt_add2 (n : Nat) : n < n + 1 + 1 := by omega
theorem lt_add3 (n : Nat) : n < n + 1 + 1 + 1 := by omega
theorem lt_add4 (n : Nat) : n < n + 1 + 1 + 1 + 1 := by omega
attribute [go_sem] lt_up2 lt_up3 lt_up4 lt_add2 lt_add3 lt_add4
/-- The facts on one box behind a call, where the box lay before it: refine with_box hb blk ?_ ?_; the side; intro .. -/
theorem with_box {W w' : World} {Q : Prop} (hb : Below W.heap.size W w') (b : Nat) (h : b < W.heap.size) (k : (∀ o, w'.cell? ⟨b, o, none⟩ = W.cell? ⟨b, o, none⟩) → (∀ o, w'.frozen? ⟨b, o, none⟩ = W.frozen? ⟨b, o, none⟩) → b < w'.heap.size → Q) : Q :=
  k (fun o => hb.cell (p := ⟨b, o, none⟩) h) (fun o => hb.frozen (p := ⟨b, o, none⟩) h) (Nat.lt_of_lt_of_le h hb.size)
theorem below_lt {B : Nat} {W w1 : World} (hb : Below B W w1) : ∀ n, n < W.heap.size → n < w1.heap.size := fun _ h => Nat.lt_of_lt_of_le h hb.size
theorem bcell {B : Nat} {W w1 : World} (hb : Below B W w1) : (∀ b o, b < B → w1.cell? ⟨b, o, none⟩ = W.cell? ⟨b, o, none⟩) ∧ (∀ b o, b < B → w1.frozen? ⟨b, o, none⟩ = W.frozen? ⟨b, o, none⟩) :=
  ⟨fun b o h => hb.cell (p := ⟨b, o, none⟩) h, fun b o h => hb.frozen (p := ⟨b, o, none⟩) h⟩

/-- The slice value v of n elements (size cells each) reads the cells xs; its cells lie in blocks from lo up to hi. -/
def Rd (w : World) (lo hi size : Nat) (v : Value) (n : Nat) (xs : List Value) : Prop :=
  xs.length = n * size ∧ ∃ (A : Option Addr) (c : Nat), v = .slice A n c ∧ n ≤ c ∧ c ≤ maxLen ∧ (0 < n → ∃ b o, A = some ⟨b, o, none⟩ ∧ lo ≤ b ∧ b < hi ∧ ∀ j, j < n * size → w.cell? ⟨b, o + j, none⟩ = xs[j]?)

theorem Rd.below {w w' : World} {lo hi size n : Nat} {v : Value} {xs : List Value} {B : Nat} (h : Rd w lo hi size v n xs) (hb : Below B w w') (hB : hi ≤ B) : Rd w' lo hi size v n xs := by
  obtain ⟨hl, A, c, hv, hn, hc, h⟩ := h
  refine ⟨hl, A, c, hv, hn, hc, fun hp => ?_⟩
  obtain ⟨b, o, hA, h1, h2, h3⟩ := h hp
  exact ⟨b, o, hA, h1, h2, fun j hj => (hb.cell (p := ⟨b, o + j, none⟩) (by show b < B; omega)).trans (h3 j hj)⟩

theorem Rd.drew {w : World} {lo hi size n : Nat} {v : Value} {xs : List Value} (h : Rd w lo hi size v n xs) : Rd w.drew lo hi size v n xs := h
theorem Rd.drewN {w : World} {lo hi size n : Nat} {v : Value} {xs : List Value} (h : Rd w lo hi size v n xs) (k : Nat) : Rd (w.drewN k) lo hi size v n xs := h
theorem Rd.mono {w : World} {lo hi lo' hi' size n : Nat} {v : Value} {xs : List Value} (h : Rd w lo hi size v n xs) (h1 : lo' ≤ lo) (h2 : hi ≤ hi') : Rd w lo' hi' size v n xs := by
  obtain ⟨hl, A, c, hv, hn, hc, h⟩ := h
  refine ⟨hl, A, c, hv, hn, hc, fun hp => ?_⟩
  obtain ⟨b, o, hA, h3, h4, h5⟩ := h hp
  exact ⟨b, o, hA, by omega, by omega, h5⟩

theorem Rd.len {w : World} {lo hi size n : Nat} {v : Value} {xs : List Value} (h : Rd w lo hi size v n xs) : n ≤ maxLen := by
  obtain ⟨hl, A, c, hv, hn, hc, h⟩ := h
  omega

/-- Block g is just the cells cs of element type t, none frozen. -/
def Own (w : World) (g : Nat) (t : TypeId) (cs : List Value) : Prop := w.heap[g]? = some (.cells ⟨cs⟩ t (0, 0))
theorem Own.lt {w : World} {g : Nat} {t : TypeId} {cs : List Value} (h : Own w g t cs) : g < w.heap.size := by
  rcases Nat.lt_or_ge g w.heap.size with hlt | hge
  · exact hlt
  · unfold Own at h; rw [Array.getElem?_eq_none hge] at h; cases h
theorem Own.cell {w : World} {g : Nat} {t : TypeId} {cs : List Value} (h : Own w g t cs) (i : Nat) : w.cell? ⟨g, i, none⟩ = cs[i]? := by
  unfold Own at h; simp [World.cell?, h]
theorem Own.frozen {w : World} {g : Nat} {t : TypeId} {cs : List Value} (h : Own w g t cs) (i : Nat) : w.frozen? ⟨g, i, none⟩ = false := by
  unfold Own at h; simp [World.frozen?, h]
theorem Own.new (w : World) (t : TypeId) (cs : Array Value) : Own (w.alloc (.cells cs t)) w.heap.size t cs.toList := heap_alloc_new w _
theorem Own.at_new {w : World} {g : Nat} {t : TypeId} {cs : Array Value} (hg : g = w.heap.size) : Own (w.alloc (.cells cs t)) g t cs.toList := by subst hg; exact Own.new w t cs
theorem Own.drewN {w : World} {g : Nat} {t : TypeId} {cs : List Value} (h : Own w g t cs) (n : Nat) : Own (w.drewN n) g t cs := h
theorem Own.drew {w : World} {g : Nat} {t : TypeId} {cs : List Value} (h : Own w g t cs) : Own w.drew g t cs := h
theorem Own.alloc {w : World} {g : Nat} {t : TypeId} {cs : List Value} (h : Own w g t cs) (o : Obj) : Own (w.alloc o) g t cs := (Below.heap_alloc w o g h.lt).trans h
theorem Own.set_ {w : World} {g : Nat} {t : TypeId} {cs : List Value} (h : Own w g t cs) (i : Nat) (u : Value) : Own (w.setCell ⟨g, i, none⟩ u) g t (cs.set i u) := by
  unfold Own at h ⊢
  simp [World.setCell, Array.getElem?_modify, h]
theorem Own.far {w : World} {g : Nat} {t : TypeId} {cs : List Value} (h : Own w g t cs) {p : Addr} (hp : g ≠ p.block) (u : Value) : Own (w.setCell p u) g t cs := (Below.heap_setCell w p u g hp).trans h
theorem Own.below {w w' : World} {g : Nat} {t : TypeId} {cs : List Value} {B : Nat} (h : Own w g t cs) (hb : Below B w w') (hg : g < B) : Own w' g t cs := (hb.block g hg).trans h
/-- A whole block of the call's own, read through a slice over all of it. -/
theorem Own.rd {w : World} {g : Nat} {t : TypeId} {cs xs : List Value} {lo hi n size : Nat} (h : Own w g t cs) (hl : xs.length = n * size) (hx : ∀ j, j < n * size → cs[j]? = xs[j]?) (h1 : lo ≤ g) (h2 : g < hi) (hm : n ≤ maxLen) :
    Rd w lo hi size (.slice (some ⟨g, 0, none⟩) n n) n xs :=
  ⟨hl, _, n, rfl, Nat.le_refl _, hm, fun _ => ⟨g, 0, rfl, h1, h2, fun j hj => by rw [Nat.zero_add, h.cell, hx j hj]⟩⟩
/-- make([]T, n) -/
theorem run_mk {P : Program} (t e : TypeId) (z : Value) (size bytes : Nat) (ht : P.underlying t = some (.slice e)) (hinfo : (P.info? e).map (fun i => (i.zero, i.size, i.bytes)) = some (some z, size, bytes))
    (n : Nat) (hb : bytes * n ≤ 281474976710656) (hn : n ≤ 9223372036854775807) (w : World) :
    (Instr.makeSlice t (.int .i64 (n : Int)) (.int .i64 (n : Int))).run P w = .ok (.slice (some ⟨w.heap.size, 0, none⟩) n n) (w.alloc (.cells (madeCells z.cells (n * size)) e)) := by
  obtain ⟨i, hi, hz, hs, hby⟩ := info_parts hinfo
  have h := run_make (P := P) w t e i z ht hi hz .i64 .i64 n n (by omega) (by omega) (by rw [hby]; omega) (by omega)
  simpa [hs] using h

/-- The slice .slice A n c reads the cells xs (size cells an element), all in blocks that exist. -/
def RS (w : World) (size : Nat) (A : Option Addr) (n c : Nat) (xs : List Value) : Prop := Rd w 0 w.heap.size size (.slice A n c) n xs
theorem RS.mk_ {w : World} {size n c : Nat} {A : Option Addr} {xs : List Value} (h : Rd w 0 w.heap.size size (.slice A n c) n xs) : RS w size A n c xs := h
theorem RS.step {size n c : Nat} {A : Option Addr} {xs : List Value} {w w' : World} (hb : Below w.heap.size w w') (h : RS w size A n c xs) : RS w' size A n c xs := (Rd.below h hb (Nat.le_refl _)).mono (Nat.le_refl _) hb.size
theorem RS.alloc {size n c : Nat} {A : Option Addr} {xs : List Value} {w : World} (h : RS w size A n c xs) (o : Obj) : RS (w.alloc o) size A n c xs := h.step ((Below.refl _ _).alloc (Nat.le_refl _) o)
theorem RS.drew {size n c : Nat} {A : Option Addr} {xs : List Value} {w : World} (h : RS w size A n c xs) : RS w.drew size A n c xs := h
theorem RS.drewN {size n c : Nat} {A : Option Addr} {xs : List Value} {w : World} (h : RS w size A n c xs) (k : Nat) : RS (w.drewN k) size A n c xs := h
theorem RS.setCell {size n c : Nat} {A : Option Addr} {xs : List Value} {w : World} (h : RS w size A n c xs) {p : Addr} (hp : ∀ ad, A = some ad → ad.block ≠ p.block) (u : Value) : RS (w.setCell p u) size A n c xs := by
  obtain ⟨hl, A', c', hs, h1, h2, hr⟩ := h
  refine ⟨hl, A', c', hs, h1, h2, fun hn => ?_⟩
  injection hs with e1 _ e2
  subst e1
  obtain ⟨b, o, h3, h4, h5, h6⟩ := hr hn
  refine ⟨b, o, h3, h4, by simpa [World.setCell] using h5, fun j hj => ?_⟩
  rw [← h6 j hj]
  exact World.cell?_setCell_other w p _ u (fun e => hp _ h3 (by rw [e]))
theorem RS.len {size n c : Nat} {A : Option Addr} {xs : List Value} {w : World} (h : RS w size A n c xs) : n ≤ maxLen := Rd.len h
theorem RS.xlen {size n c : Nat} {A : Option Addr} {xs : List Value} {w : World} (h : RS w size A n c xs) : xs.length = n * size := h.1
/-- .. opened: the address, where there is an element. -/
theorem RS.open_ {size n c : Nat} {A : Option Addr} {xs : List Value} {w : World} (h : RS w size A n c xs) : n ≤ c ∧ c ≤ maxLen ∧ (0 < n → ∃ b o, A = some ⟨b, o, none⟩ ∧ b < w.heap.size ∧ ∀ j, j < n * size → w.cell? ⟨b, o + j, none⟩ = xs[j]?) := by
  obtain ⟨_, A', c', hs, h1, h2, hr⟩ := h
  injection hs with e1 _ e2
  subst e1; subst e2
  refine ⟨h1, h2, fun hp => ?_⟩
  obtain ⟨b, o, h3, _, h5, h6⟩ := hr hp
  exact ⟨b, o, h3, h5, h6⟩
/-- A slice over a whole block of the call's own. -/
abbrev sl (g n : Nat) : Value := .slice (some ⟨g, 0, none⟩) n n
theorem Own.rs {w : World} {g : Nat} {t : TypeId} {xs : List Value} {n size : Nat} (h : Own w g t xs) (hl : xs.length = n * size) (hm : n ≤ 1048576) :
    RS w size (some ⟨g, 0, none⟩) n n xs := h.rd hl (fun _ _ => rfl) (Nat.zero_le _) h.lt (by unfold maxLen; omega)
theorem Own.step {w w' : World} {g : Nat} {t : TypeId} {cs : List Value} (hb : Below w.heap.size w w') (h : Own w g t cs) : Own w' g t cs := h.below hb h.lt
/-- ints as cells -/
abbrev ints (l : List Int) : List Value := l.map (Value.int .i64)
abbrev bools (l : List Bool) : List Value := l.map Value.bool

end Go.Proofs.Ythpanpedoeghoaa
