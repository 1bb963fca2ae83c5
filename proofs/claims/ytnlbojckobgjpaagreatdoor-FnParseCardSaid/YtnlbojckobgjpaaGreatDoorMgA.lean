/- Several texts in one: Mem, Ints, Mark, TxtP, Pure, TxtI, App, Law, Open, DRow. -/
import Derived.WalkKit
import Derived.WalkSpells
import Derived.WalkLawsBesides
import Derived.Lib.Hide
import Derived.Test.YtnlbojckobgjpaaGreatDoorRows
import Derived.BigQuiet
import Derived.Deep.QuietTactic
import Derived.Lib.ItoaLen
import Derived.Lib.AtoiTie
import Derived.Lib.AtoiBound
import Derived.Deep.RegionHeld3
import Derived.Maps.AppendAt
import Derived.Laws.AppendOwnNone
import Derived.RegionTactic
import Derived.ProofKit
import Derived.OpenShut
import Derived.ShutString
import Derived.Deep.Slices
import Derived.Deep.Fields
/- Words for memory: slices that read as lists of cells, kept while the world grows. No program in sight. -/
set_option linter.unusedVariables false
set_option linter.unusedSimpArgs false
namespace Go.Proofs.YtnlbojckobgjpaaGreatDoor
open Go.RowKit

theorem ret_int {k : IntKind} {a b : Int} (h : a = b) : Ending.returned (.int k a) = .returned (.int k b) := by rw [h]
theorem ret_bool {a b : Bool} (h : a = b) : Ending.returned (.bool a) = .returned (.bool b) := by rw [h]

theorem ret_slice {b o o' n n' c c' : Nat} (h : o = o') (h2 : n = n') (h3 : c = c') : Ending.returned (.slice (some ⟨b, o, none⟩) n c) = .returned (.slice (some ⟨b, o', none⟩) n' c') := by rw [h, h2, h3]
theorem below_drewN {B : Nat} {a w : World} (h : Below B a w) (n : Nat) : Below B a (w.drewN n) := ⟨h.os, h.tape, h.output, h.size, h.block⟩
theorem Below.step {B : Nat} {a b c : World} (hb : Below b.heap.size b c) (h : Below B a b) (hs : B ≤ b.heap.size) : Below B a c := h.trans (hb.mono hs)
theorem lt_up2 {n m : Nat} (h : n < m) : n < m + 1 + 1 := by omega
theorem lt_up3 {n m : Nat} (h : n < m) : n < m + 1 + 1 + 1 := by omega
theorem lt_up4 {n m : Nat} (h : n < m) : n < m + 1 + 1 + 1 + 1 := by omega
theorem lt_add2 (n : Nat) : n < n + 1 + 1 := by omega
theorem lt_add3 (n : Nat) : n < n + 1 + 1 + 1 := by omega
theorem lt_add4 (n : Nat) : n < n + 1 + 1 + 1 + 1 := by omega
attribute [go_sem] lt_up2 lt_up3 lt_up4 lt_add2 lt_add3 lt_add4
/-- The facts on one box behind a call, where the box lay before it: refine with_box hb blk ?_ ?_; the side; intro .. -/
theorem with_box {W w' : World} {Q : Prop} (hb : Below W.heap.size W w') (b : Nat) (h : b < W.heap.size) (k : (∀ o, w'.cell? ⟨b, o, none⟩ = W.cell? ⟨b, o, none⟩) → (∀ o, w'.frozen? ⟨b, o, none⟩ = W.frozen? ⟨b, o, none⟩) → b < w'.heap.size → Q) : Q :=
  k (fun o => hb.cell (p := ⟨b, o, none⟩) h) (fun o => hb.frozen (p := ⟨b, o, none⟩) h) (Nat.lt_of_lt_of_le h hb.size)
theorem below_lt {B : Nat} {W w1 : World} (hb : Below B W w1) : ∀ n, n < W.heap.size → n < w1.heap.size := fun _ h => Nat.lt_of_lt_of_le h hb.size
theorem bcell {B : Nat} {W w1 : World} (hb : Below B W w1) : (∀ b o, b < B → w1.cell? ⟨b, o, none⟩ = W.cell? ⟨b, o, none⟩) ∧ (∀ b o, b < B → w1.frozen? ⟨b, o, none⟩ = W.frozen? ⟨b, o, none⟩) :=
  ⟨fun b o h => hb.cell (p := ⟨b, o, none⟩) h, fun b o h => hb.frozen (p := ⟨b, o, none⟩) h⟩

/-- The slice value v of n elements (size cells each) reads the cells xs; its cells lie in blocks from lo up to hi. -/
def Rd (w : World) (lo hi size : Nat) (v : Value) (n : Nat) (xs : List Value) : Prop :=
  xs.length = n * size ∧ ∃ (A : Option Addr) (c : Nat), v = .slice A n c ∧ n ≤ c ∧ c ≤ maxLen ∧ (0 < n → ∃ b o, A = some ⟨b, o, none⟩ ∧ lo ≤ b ∧ b < hi ∧ ∀ j, j < n * size → w.cell? ⟨b, o + j, none⟩ = xs[j]?)

theorem Rd.below {w w' : World} {lo hi size n : Nat} {v : Value} {xs : List Value} {B : Nat} (h : Rd w lo hi size v n xs) (hb : Below B w w') (hB : hi ≤ B) : Rd w' lo hi size v n xs := by
  obtain ⟨hl, A, c, hv, hn, hc, h⟩ := h
  refine ⟨hl, A, c, hv, hn, hc, fun hp => ?_⟩
  obtain ⟨b, o, hA, h1, h2, h3⟩ := h hp
  exact ⟨b, o, hA, h1, h2, fun j hj => (hb.cell (p := ⟨b, o + j, none⟩) (by show b < B; omega)).trans (h3 j hj)⟩

theorem Rd.drew {w : World} {lo hi size n : Nat} {v : Value} {xs : List Value} (h : Rd w lo hi size v n xs) : Rd w.drew lo hi size v n xs := h
theorem Rd.drewN {w : World} {lo hi size n : Nat} {v : Value} {xs : List Value} (h : Rd w lo hi size v n xs) (k : Nat) : Rd (w.drewN k) lo hi size v n xs := h
theorem Rd.mono {w : World} {lo hi lo' hi' size n : Nat} {v : Value} {xs : List Value} (h : Rd w lo hi size v n xs) (h1 : lo' ≤ lo) (h2 : hi ≤ hi') : Rd w lo' hi' size v n xs := by
  obtain ⟨hl, A, c, hv, hn, hc, h⟩ := h
  refine ⟨hl, A, c, hv, hn, hc, fun hp => ?_⟩
  obtain ⟨b, o, hA, h3, h4, h5⟩ := h hp
  exact ⟨b, o, hA, by omega, by omega, h5⟩

theorem Rd.len {w : World} {lo hi size n : Nat} {v : Value} {xs : List Value} (h : Rd w lo hi size v n xs) : n ≤ maxLen := by
  obtain ⟨hl, A, c, hv, hn, hc, h⟩ := h
  omega

/-- Block g is just the cells cs of element type t, none frozen. -/
def Own (w : World) (g : Nat) (t : TypeId) (cs : List Value) : Prop := w.heap[g]? = some (.cells ⟨cs⟩ t (0, 0))
theorem Own.lt {w : World} {g : Nat} {t : TypeId} {cs : List Value} (h : Own w g t cs) : g < w.heap.size := by
  rcases Nat.lt_or_ge g w.heap.size with hlt | hge
  · exact hlt
  · unfold Own at h; rw [Array.getElem?_eq_none hge] at h; cases h
theorem Own.cell {w : World} {g : Nat} {t : TypeId} {cs : List Value} (h : Own w g t cs) (i : Nat) : w.cell? ⟨g, i, none⟩ = cs[i]? := by
  unfold Own at h; simp [World.cell?, h]
theorem Own.frozen {w : World} {g : Nat} {t : TypeId} {cs : List Value} (h : Own w g t cs) (i : Nat) : w.frozen? ⟨g, i, none⟩ = false := by
  unfold Own at h; simp [World.frozen?, h]
theorem Own.new (w : World) (t : TypeId) (cs : Array Value) : Own (w.alloc (.cells cs t)) w.heap.size t cs.toList := heap_alloc_new w _
theorem Own.at_new {w : World} {g : Nat} {t : TypeId} {cs : Array Value} (hg : g = w.heap.size) : Own (w.alloc (.cells cs t)) g t cs.toList := by subst hg; exact Own.new w t cs
theorem Own.drewN {w : World} {g : Nat} {t : TypeId} {cs : List Value} (h : Own w g t cs) (n : Nat) : Own (w.drewN n) g t cs := h
theorem Own.drew {w : World} {g : Nat} {t : TypeId} {cs : List Value} (h : Own w g t cs) : Own w.drew g t cs := h
theorem Own.alloc {w : World} {g : Nat} {t : TypeId} {cs : List Value} (h : Own w g t cs) (o : Obj) : Own (w.alloc o) g t cs := (Below.heap_alloc w o g h.lt).trans h
theorem Own.set_ {w : World} {g : Nat} {t : TypeId} {cs : List Value} (h : Own w g t cs) (i : Nat) (u : Value) : Own (w.setCell ⟨g, i, none⟩ u) g t (cs.set i u) := by
  unfold Own at h ⊢
  simp [World.setCell, Array.getElem?_modify, h]
theorem Own.far {w : World} {g : Nat} {t : TypeId} {cs : List Value} (h : Own w g t cs) {p : Addr} (hp : g ≠ p.block) (u : Value) : Own (w.setCell p u) g t cs := (Below.heap_setCell w p u g hp).trans h
theorem Own.below {w w' : World} {g : Nat} {t : TypeId} {cs : List Value} {B : Nat} (h : Own w g t cs) (hb : Below B w w') (hg : g < B) : Own w' g t cs := (hb.block g hg).trans h
/-- A whole block of the call's own, read through a slice over all of it. -/
theorem Own.rd {w : World} {g : Nat} {t : TypeId} {cs xs : List Value} {lo hi n size : Nat} (h : Own w g t cs) (hl : xs.length = n * size) (hx : ∀ j, j < n * size → cs[j]? = xs[j]?) (h1 : lo ≤ g) (h2 : g < hi) (hm : n ≤ maxLen) :
    Rd w lo hi size (.slice (some ⟨g, 0, none⟩) n n) n xs :=
  ⟨hl, _, n, rfl, Nat.le_refl _, hm, fun _ => ⟨g, 0, rfl, h1, h2, fun j hj => by rw [Nat.zero_add, h.cell, hx j hj]⟩⟩
/-- make([]T, n) -/
theorem run_mk {P : Program} (t e : TypeId) (z : Value) (size bytes : Nat) (ht : P.underlying t = some (.slice e)) (hinfo : (P.info? e).map (fun i => (i.zero, i.size, i.bytes)) = some (some z, size, bytes))
    (n : Nat) (hb : bytes * n ≤ 281474976710656) (hn : n ≤ 9223372036854775807) (w : World) :
    (Instr.makeSlice t (.int .i64 (n : Int)) (.int .i64 (n : Int))).run P w = .ok (.slice (some ⟨w.heap.size, 0, none⟩) n n) (w.alloc (.cells (madeCells z.cells (n * size)) e)) := by
  obtain ⟨i, hi, hz, hs, hby⟩ := info_parts hinfo
  have h := run_make (P := P) w t e i z ht hi hz .i64 .i64 n n (by omega) (by omega) (by rw [hby]; omega) (by omega)
  simpa [hs] using h

/-- The slice .slice A n c reads the cells xs (size cells an element), all in blocks that exist. -/
def RS (w : World) (size : Nat) (A : Option Addr) (n c : Nat) (xs : List Value) : Prop := Rd w 0 w.heap.size size (.slice A n c) n xs
theorem RS.mk_ {w : World} {size n c : Nat} {A : Option Addr} {xs : List Value} (h : Rd w 0 w.heap.size size (.slice A n c) n xs) : RS w size A n c xs := h
theorem RS.step {size n c : Nat} {A : Option Addr} {xs : List Value} {w w' : World} (hb : Below w.heap.size w w') (h : RS w size A n c xs) : RS w' size A n c xs := (Rd.below h hb (Nat.le_refl _)).mono (Nat.le_refl _) hb.size
theorem RS.alloc {size n c : Nat} {A : Option Addr} {xs : List Value} {w : World} (h : RS w size A n c xs) (o : Obj) : RS (w.alloc o) size A n c xs := h.step ((Below.refl _ _).alloc (Nat.le_refl _) o)
theorem RS.drew {size n c : Nat} {A : Option Addr} {xs : List Value} {w : World} (h : RS w size A n c xs) : RS w.drew size A n c xs := h
theorem RS.drewN {size n c : Nat} {A : Option Addr} {xs : List Value} {w : World} (h : RS w size A n c xs) (k : Nat) : RS (w.drewN k) size A n c xs := h
theorem RS.setCell {size n c : Nat} {A : Option Addr} {xs : List Value} {w : World} (h : RS w size A n c xs) {p : Addr} (hp : ∀ ad, A = some ad → ad.block ≠ p.block) (u : Value) : RS (w.setCell p u) size A n c xs := by
  obtain ⟨hl, A', c', hs, h1, h2, hr⟩ := h
  refine ⟨hl, A', c', hs, h1, h2, fun hn => ?_⟩
  injection hs with e1 _ e2
  subst e1
  obtain ⟨b, o, h3, h4, h5, h6⟩ := hr hn
  refine ⟨b, o, h3, h4, by simpa [World.setCell] using h5, fun j hj => ?_⟩
  rw [← h6 j hj]
  exact World.cell?_setCell_other w p _ u (fun e => hp _ h3 (by rw [e]))
theorem RS.len {size n c : Nat} {A : Option Addr} {xs : List Value} {w : World} (h : RS w size A n c xs) : n ≤ maxLen := Rd.len h
theorem RS.xlen {size n c : Nat} {A : Option Addr} {xs : List Value} {w : World} (h : RS w size A n c xs) : xs.length = n * size := h.1
/-- .. opened: the address, where there is an element. -/
theorem RS.open_ {size n c : Nat} {A : Option Addr} {xs : List Value} {w : World} (h : RS w size A n c xs) : n ≤ c ∧ c ≤ maxLen ∧ (0 < n → ∃ b o, A = some ⟨b, o, none⟩ ∧ b < w.heap.size ∧ ∀ j, j < n * size → w.cell? ⟨b, o + j, none⟩ = xs[j]?) := by
  obtain ⟨_, A', c', hs, h1, h2, hr⟩ := h
  injection hs with e1 _ e2
  subst e1; subst e2
  refine ⟨h1, h2, fun hp => ?_⟩
  obtain ⟨b, o, h3, _, h5, h6⟩ := hr hp
  exact ⟨b, o, h3, h5, h6⟩
/-- A slice over a whole block of the call's own. -/
abbrev sl (g n : Nat) : Value := .slice (some ⟨g, 0, none⟩) n n
theorem Own.rs {w : World} {g : Nat} {t : TypeId} {xs : List Value} {n size : Nat} (h : Own w g t xs) (hl : xs.length = n * size) (hm : n ≤ 1048576) :
    RS w size (some ⟨g, 0, none⟩) n n xs := h.rd hl (fun _ _ => rfl) (Nat.zero_le _) h.lt (by unfold maxLen; omega)
theorem Own.step {w w' : World} {g : Nat} {t : TypeId} {cs : List Value} (hb : Below w.heap.size w w') (h : Own w g t cs) : Own w' g t cs := h.below hb h.lt
/-- ints as cells -/
abbrev ints (l : List Int) : List Value := l.map (Value.int .i64)
abbrev bools (l : List Bool) : List Value := l.map Value.bool

end Go.Proofs.YtnlbojckobgjpaaGreatDoor

/- The laws' own helpers on slices of ints: szIntS, toIntS, eqIntS; and slices.Equal at ints. -/
namespace Go.Proofs.YtnlbojckobgjpaaGreatDoor
open Go.RowKit
def szF (left : Int) (n : Nat) : Int := if left < n then -1 else left - n
theorem szF_big {left : Int} {n : Nat} (h : left < n) : szF left n = -1 := by unfold szF; rw [if_pos h]
theorem szF_small {left : Int} {n : Nat} (h : n ≤ left) : 0 ≤ szF left n ∧ szF left n ≤ left := by unfold szF; rw [if_neg (by omega)]; omega
theorem szF_neg {left : Int} {n : Nat} (h : szF left n < 0) : left < n := by
  rcases Int.lt_or_le left n with h1 | h1
  · exact h1
  · have := (szF_small h1).1; omega
def SameTo (l m : List Int) (k : Nat) : Prop := l.take k = m.take k
theorem SameTo.succ {l m : List Int} {k : Nat} (h : SameTo l m k) (hl : k < l.length) (hm : k < m.length) (e : l[k] = m[k]) : SameTo l m (k + 1) := by
  unfold SameTo at *
  rw [List.take_succ_eq_append_getElem hl, List.take_succ_eq_append_getElem hm, h, e]
theorem SameTo.whole {l m : List Int} (h : SameTo l m l.length) (hlen : l.length = m.length) : l = m := by
  unfold SameTo at h
  rwa [List.take_of_length_le (Nat.le_refl _), hlen, List.take_of_length_le (Nat.le_refl _)] at h
theorem ints_at {l : List Int} {k : Nat} (h : k < l.length) : (ints l)[k]? = some (.int .i64 l[k]) := by simp [h]
theorem T.infoInt : (Tryz.prog.info? 3).map (fun i => (i.zero, i.size, i.bytes)) = some (some (.int .i64 0), 1, 8) := by kernel_rfl
def Filled (l : List Int) (cs : List Value) (k : Nat) : Prop := cs.length = l.length ∧ ∀ j, j < k → cs[j]? = (ints l)[j]?
theorem Filled.succ {l : List Int} {cs : List Value} {k : Nat} (h : Filled l cs k) (hk : k < l.length) : Filled l (cs.set k (.int .i64 l[k])) (k + 1) := by
  refine ⟨by rw [List.length_set]; exact h.1, fun j hj => ?_⟩
  by_cases e : k = j
  · subst e; rw [List.getElem?_set_self (by rw [h.1]; exact hk), ints_at hk]
  · rw [List.getElem?_set_ne e]; exact h.2 j (by omega)
def OutInts (l : List Int) (w : World) (e : Ending) (w' : World) : Prop :=
  e = .returned (sl w.heap.size l.length) ∧ Own w' w.heap.size 3 (ints l) ∧ RS w' 1 (some ⟨w.heap.size, 0, none⟩) l.length l.length (ints l) ∧ Below w.heap.size w w'
end Go.Proofs.YtnlbojckobgjpaaGreatDoor

/- The laws' marks: a row of the program's answer is overwritten by k, k + 1, .. and later read again. -/
namespace Go.Proofs.YtnlbojckobgjpaaGreatDoor
open Go.RowKit
/-- Below block B the world is as it was, but for the blocks G. -/
structure Only (B : Nat) (G : List Nat) (w w' : World) : Prop where
  os : w'.os = w.os
  tape : w'.tape = w.tape
  output : w'.output = w.output
  size : w.heap.size ≤ w'.heap.size
  block : ∀ k, k < B → k ∉ G → w'.heap[k]? = w.heap[k]?
theorem Only.refl (B : Nat) (G : List Nat) (w : World) : Only B G w w := ⟨rfl, rfl, rfl, Nat.le_refl _, fun _ _ _ => rfl⟩
theorem Only.of_below {B : Nat} {w w' : World} (h : Below B w w') (G : List Nat) : Only B G w w' := ⟨h.os, h.tape, h.output, h.size, fun k hk _ => h.block k hk⟩
theorem Only.trans {B C : Nat} {G H : List Nat} {a b c : World} (h : Only B G a b) (k : Only C H b c) (hB : B ≤ C) (hG : ∀ x, x ∈ H → x ∈ G) : Only B G a c :=
  ⟨k.os.trans h.os, k.tape.trans h.tape, k.output.trans h.output, Nat.le_trans h.size k.size, fun i hi hn => (k.block i (by omega) (fun hx => hn (hG _ hx))).trans (h.block i hi hn)⟩
theorem Only.setCell {B : Nat} {G : List Nat} {a w : World} (h : Only B G a w) {p : Addr} (hp : p.block ∈ G) (u : Value) : Only B G a (w.setCell p u) :=
  ⟨h.os, h.tape, h.output, by simpa [World.setCell] using h.size, fun i hi hn => (Below.heap_setCell w p u i (fun e => hn (e ▸ hp))).trans (h.block i hi hn)⟩
theorem Only.drew {B : Nat} {G : List Nat} {a w : World} (h : Only B G a w) : Only B G a w.drew := ⟨h.os, h.tape, h.output, h.size, h.block⟩
theorem Only.drewN {B : Nat} {G : List Nat} {a w : World} (h : Only B G a w) (n : Nat) : Only B G a (w.drewN n) := ⟨h.os, h.tape, h.output, h.size, h.block⟩
theorem Only.below {B C : Nat} {G : List Nat} {a w : World} (h : Only B G a w) (hC : C ≤ B) (hG : ∀ x, x ∈ G → C ≤ x) : Below C a w :=
  ⟨h.os, h.tape, h.output, h.size, fun i hi => h.block i (by omega) (fun hx => by have := hG i hx; omega)⟩
theorem Only.own {B : Nat} {G : List Nat} {a w : World} (h : Only B G a w) {g : Nat} {t : TypeId} {cs : List Value} (ho : Own a g t cs) (hB : g < B) (hG : g ∉ G) : Own w g t cs := (h.block g hB hG).trans ho
theorem Only.cell {B : Nat} {G : List Nat} {a w : World} (h : Only B G a w) (g : Nat) (hB : g < B) (hG : g ∉ G) : (∀ o, w.cell? ⟨g, o, none⟩ = a.cell? ⟨g, o, none⟩) ∧ (∀ o, w.frozen? ⟨g, o, none⟩ = a.frozen? ⟨g, o, none⟩) := by
  have := h.block g hB hG
  exact ⟨fun o => by simp [World.cell?, this], fun o => by simp [World.frozen?, this]⟩
/-- k, k + 1, .. -/
def upFrom (k : Int) (n : Nat) : List Int := (List.range n).map (fun (i : Nat) => k + i)
theorem upFrom_len (k : Int) (n : Nat) : (upFrom k n).length = n := by simp [upFrom]
theorem upFrom_at {k : Int} {n i : Nat} (h : i < n) : (ints (upFrom k n))[i]? = some (.int .i64 (k + i)) := by simp [upFrom, h]
def Marked (k : Int) (n : Nat) (cs : List Value) (i : Nat) : Prop := cs.length = n ∧ ∀ j, j < i → cs[j]? = (ints (upFrom k n))[j]?
theorem Marked.succ {k : Int} {n i : Nat} {cs : List Value} (h : Marked k n cs i) (hi : i < n) : Marked k n (cs.set i (.int .i64 (k + i))) (i + 1) := by
  refine ⟨by rw [List.length_set]; exact h.1, fun j hj => ?_⟩
  by_cases e : i = j
  · subst e; rw [List.getElem?_set_self (by rw [h.1]; exact hi), upFrom_at hi]
  · rw [List.getElem?_set_ne e]; exact h.2 j (by omega)
theorem Marked.all {k : Int} {n : Nat} {cs : List Value} (h : Marked k n cs n) : cs = ints (upFrom k n) := by
  apply List.ext_getElem?
  intro j
  by_cases hj : j < n
  · exact h.2 j hj
  · rw [List.getElem?_eq_none (by rw [h.1]; omega), List.getElem?_eq_none (by simp [upFrom]; omega)]
theorem Own.set_left {w : World} {g : Nat} {t : TypeId} {cs ds : List Value} (h : Own w g t (cs ++ ds)) (i : Nat) (hi : i < cs.length) (u : Value) : Own (w.setCell ⟨g, i, none⟩ u) g t (cs.set i u ++ ds) := by
  have := h.set_ i u
  rwa [List.set_append_left _ _ hi] at this
/-- The blocks of a row. -/
def gOf : Option Addr → List Nat
  | none => []
  | some a => [a.block]
/-- A row of the callee's own (n elements of sz cells, room for c): none at all, or the first part of a block. -/
def OwnS (w : World) (sz : Nat) (A : Option Addr) (n c : Nat) (t : TypeId) (cs : List Value) : Prop :=
  cs.length = n * sz ∧ n ≤ c ∧ c ≤ maxLen ∧ ((A = none ∧ n = 0) ∨ ∃ g ds, A = some ⟨g, 0, none⟩ ∧ Own w g t (cs ++ ds))
section
variable {w w' a : World} {A : Option Addr} {sz n c : Nat} {t : TypeId} {cs : List Value}
theorem OwnS.lt (h : OwnS w sz A n c t cs) : ∀ x, x ∈ gOf A → x < w.heap.size := by
  obtain ⟨_, _, _, ⟨rfl, _⟩ | ⟨g, ds, rfl, ho⟩⟩ := h
  · intro x hx; cases hx
  · intro x hx; simp [gOf] at hx; subst hx; exact ho.lt
theorem OwnS.only {B : Nat} {G : List Nat} (h : OwnS a sz A n c t cs) (hO : Only B G a w) (hg : ∀ x, x ∈ gOf A → x < B ∧ x ∉ G) : OwnS w sz A n c t cs := by
  obtain ⟨hl, h1, h2, ⟨rfl, h0⟩ | ⟨g, ds, rfl, ho⟩⟩ := h
  · exact ⟨hl, h1, h2, .inl ⟨rfl, h0⟩⟩
  · have := hg g (by simp [gOf])
    exact ⟨hl, h1, h2, .inr ⟨g, ds, rfl, hO.own ho this.1 this.2⟩⟩
theorem OwnS.step (hb : Below w.heap.size w w') (h : OwnS w sz A n c t cs) : OwnS w' sz A n c t cs := h.only (Only.of_below hb []) (fun x hx => ⟨h.lt x hx, by simp⟩)
theorem OwnS.alloc (h : OwnS w sz A n c t cs) (o : Obj) : OwnS (w.alloc o) sz A n c t cs := h.step ((Below.refl _ _).alloc (Nat.le_refl _) o)
theorem OwnS.drewN (h : OwnS w sz A n c t cs) (k : Nat) : OwnS (w.drewN k) sz A n c t cs := h
theorem OwnS.drew (h : OwnS w sz A n c t cs) : OwnS w.drew sz A n c t cs := h
theorem OwnS.far (h : OwnS w sz A n c t cs) {p : Addr} (hp : ∀ x, x ∈ gOf A → x ≠ p.block) (u : Value) : OwnS (w.setCell p u) sz A n c t cs := by
  obtain ⟨hl, h1, h2, ⟨rfl, h0⟩ | ⟨g, ds, rfl, ho⟩⟩ := h
  · exact ⟨hl, h1, h2, .inl ⟨rfl, h0⟩⟩
  · exact ⟨hl, h1, h2, .inr ⟨g, ds, rfl, ho.far (hp g (by simp [gOf])) u⟩⟩
theorem OwnS.rs (h : OwnS w sz A n c t cs) : RS w sz A n c cs := by
  obtain ⟨hl, h1, h2, ⟨rfl, h0⟩ | ⟨g, ds, rfl, ho⟩⟩ := h
  · subst h0
    exact ⟨hl, none, c, rfl, h1, h2, fun h => absurd h (by omega)⟩
  · exact ⟨hl, some ⟨g, 0, none⟩, c, rfl, h1, h2, fun h => ⟨g, 0, rfl, Nat.zero_le _, ho.lt, fun j hj => by rw [Nat.zero_add, ho.cell, List.getElem?_append_left (by omega)]⟩⟩
theorem OwnS.none_ (w : World) (sz : Nat) (t : TypeId) : OwnS w sz none 0 0 t [] := ⟨by simp, Nat.le_refl _, Nat.zero_le _, .inl ⟨rfl, rfl⟩⟩
theorem OwnS.some_ {g : Nat} (h : Own w g t cs) (hl : cs.length = n * sz) (hn : n ≤ 1048576) : OwnS w sz (some ⟨g, 0, none⟩) n n t cs := ⟨hl, Nat.le_refl _, by unfold maxLen; omega, .inr ⟨g, [], rfl, by rwa [List.append_nil]⟩⟩
end
end Go.Proofs.YtnlbojckobgjpaaGreatDoor

/- Decimal texts, in plain Lean: an integer of at most a milliard and its digits, and back. -/
namespace Go.Proofs.YtnlbojckobgjpaaGreatDoor
open Go.Lib
theorem digitVal_of {d : Nat} (h : d < 10) : digitVal (UInt8.ofNat (48 + d)) = some d :=
  (by decide : ∀ d : Fin 10, digitVal (UInt8.ofNat (48 + d.val)) = some d.val) ⟨d, h⟩
theorem decFrom_append : ∀ (l m : List UInt8) (acc : Nat), decFrom acc (l ++ m) = (decFrom acc l).bind fun n => decFrom n m
  | [], m, acc => rfl
  | b :: r, m, acc => by
    simp only [List.cons_append, decFrom]
    cases digitVal b with
    | none => rfl
    | some d => exact decFrom_append r m _
theorem decFrom_decDigits (u : Nat) : decFrom 0 (decDigits u) = some u := by
  induction u using Nat.strongRecOn with
  | _ u ih =>
    rw [decDigits]
    by_cases h : u < 10
    · rw [dif_pos h]; simp only [decFrom, digitVal_of h, Nat.zero_mul, Nat.zero_add]
    · rw [dif_neg h, decFrom_append, ih (u / 10) (by omega)]
      simp only [Option.bind_some, decFrom, digitVal_of (show u % 10 < 10 by omega), Option.some.injEq]
      omega
theorem decDigits_ne (u : Nat) : decDigits u ≠ [] := by
  rw [decDigits]; split <;> simp
theorem decNat_decDigits (u : Nat) : decNat (decDigits u) = some u := by
  have := decDigits_ne u
  unfold decNat
  rw [if_neg (by simpa using this)]
  exact decFrom_decDigits u
theorem decDigits_digit {u : Nat} {b : UInt8} (h : b ∈ decDigits u) : 48 ≤ b.toNat ∧ b.toNat ≤ 57 := by
  obtain ⟨k, hk, rfl⟩ := List.getElem_of_mem h
  obtain ⟨d, hd⟩ := digit_of_decFrom _ 0 u (decFrom_decDigits u) k _ (List.getElem?_eq_getElem hk)
  have := digitVal_eq hd
  exact ⟨this.1, this.2.1⟩
theorem atoi_itoa (n : Int) : atoi (itoa n) = some n := by
  unfold itoa
  by_cases h : n < 0
  · rw [if_pos h]
    simp only [atoi, beq_self_eq_true, if_true, decNat_decDigits, Option.map_some, Option.some.injEq]
    omega
  · rw [if_neg h]
    have hd := decNat_decDigits n.toNat
    have hb : ∀ b ∈ decDigits n.toNat, 48 ≤ b.toNat := fun b hb => (decDigits_digit hb).1
    cases hl : decDigits n.toNat with
    | nil => exact absurd hl (decDigits_ne _)
    | cons b r =>
      rw [hl] at hd hb
      have h1 := hb b (by simp)
      have n45 : (b == 45) = false := by
        rw [beq_eq_false_iff_ne]; rintro rfl; exact absurd h1 (by decide)
      have n43 : (b == 43) = false := by
        rw [beq_eq_false_iff_ne]; rintro rfl; exact absurd h1 (by decide)
      simp only [atoi, n45, n43, hd, Option.map_some]
      simp only [Bool.false_eq_true, if_false, Option.some.injEq]
      omega
def inNum (n : Int) : Prop := -1000000000 ≤ n ∧ n ≤ 1000000000
instance (n : Int) : Decidable (inNum n) := inferInstanceAs (Decidable (_ ∧ _))
/-- The text of a number; none at all beyond a milliard. -/
def fmtI (n : Int) : List UInt8 := if inNum n then itoa n else []
/-- The number whose text this is. -/
def parseI (l : List UInt8) : Option Int := (atoi l).filter fun v => decide (fmtI v = l)
theorem fmtI_in {n : Int} (h : inNum n) : fmtI n = itoa n := if_pos h
theorem fmtI_out {n : Int} (h : ¬ inNum n) : fmtI n = [] := if_neg h
theorem itoa_ne (n : Int) : itoa n ≠ [] := by
  unfold itoa; split
  · simp
  · exact decDigits_ne _
theorem fmtI_ne {n : Int} (h : inNum n) : fmtI n ≠ [] := by rw [fmtI_in h]; exact itoa_ne n
theorem fmtI_nil_iff (n : Int) : fmtI n = [] ↔ ¬ inNum n :=
  ⟨fun h hn => fmtI_ne hn h, fmtI_out⟩
theorem parseI_some {l : List UInt8} {v : Int} (h : parseI l = some v) : inNum v ∧ l = itoa v ∧ fmtI v = l := by
  unfold parseI at h
  cases ha : atoi l with
  | none => rw [ha] at h; simp at h
  | some u =>
    rw [ha] at h
    simp only [Option.filter_some, decide_eq_true_eq] at h
    split at h
    · rename_i hu
      obtain rfl := Option.some.inj h
      have hne : l ≠ [] := by rintro rfl; simp [atoi] at ha
      have hn : inNum u := by
        by_cases hn : inNum u
        · exact hn
        · rw [fmtI_out hn] at hu; exact absurd hu.symm hne
      exact ⟨hn, by rw [← hu, fmtI_in hn], hu⟩
    · cases h
theorem parseI_of {l : List UInt8} {v : Int} (hl : l ≠ []) (h : fmtI v = l) : parseI l = some v := by
  have hn : inNum v := by
    by_cases hn : inNum v
    · exact hn
    · rw [fmtI_out hn] at h; exact absurd h.symm hl
  have e : l = itoa v := by rw [← h, fmtI_in hn]
  unfold parseI
  rw [show atoi l = some v from by rw [e]; exact atoi_itoa v]
  simp [Option.filter_some, h]
theorem parseI_fmtI {n : Int} (h : inNum n) : parseI (fmtI n) = some n := parseI_of (fmtI_ne h) rfl
theorem parseI_nil : parseI [] = none := rfl
theorem nDigits_le : ∀ (k u : Nat), u < 10 ^ (k + 1) → nDigits u ≤ k + 1
  | 0, u, h => by rw [nDigits_small (by simpa using h)]; decide
  | k + 1, u, h => by
    by_cases h1 : u < 10
    · rw [nDigits_small h1]; omega
    · rw [nDigits_big h1]
      have := nDigits_le k (u / 10) (Nat.div_lt_of_lt_mul (by rw [Nat.pow_succ, Nat.mul_comm] at h; exact h))
      omega
theorem fmtI_len (n : Int) : (fmtI n).length ≤ 11 := by
  unfold fmtI
  split
  · rename_i h
    obtain ⟨h1, h2⟩ := h
    unfold itoa
    split
    · rw [List.length_cons, decDigits_length]
      have := nDigits_le 9 n.natAbs (by omega)
      omega
    · rw [decDigits_length]
      have := nDigits_le 9 n.toNat (by omega)
      omega
  · simp
theorem parseI_len {l : List UInt8} {v : Int} (h : parseI l = some v) : l.length ≤ 11 := by
  have := fmtI_len v
  rw [(parseI_some h).2.2] at this
  exact this
theorem itoa_at {n : Int} {k : Nat} {b : UInt8} (h : (itoa n)[k]? = some b) : (k = 0 ∧ n < 0 ∧ b = 45) ∨ (48 ≤ b.toNat ∧ b.toNat ≤ 57) := by
  unfold itoa at h
  split at h
  · rename_i hn
    cases k with
    | zero => simp at h; exact .inl ⟨rfl, hn, h.symm⟩
    | succ k =>
      rw [List.getElem?_cons_succ] at h
      exact .inr (decDigits_digit (List.mem_of_getElem? h))
  · exact .inr (decDigits_digit (List.mem_of_getElem? h))
theorem itoa_mem {n : Int} {b : UInt8} (h : b ∈ itoa n) : b = 45 ∨ (48 ≤ b.toNat ∧ b.toNat ≤ 57) := by
  obtain ⟨k, hk, rfl⟩ := List.getElem_of_mem h
  rcases itoa_at (List.getElem?_eq_getElem hk) with h | h
  · exact .inl h.2.2
  · exact .inr h
/-- A byte that no numeral has at its place. -/
theorem parseI_bad {l : List UInt8} {k : Nat} {b : UInt8} (hk : l[k]? = some b) (hb : ¬ (48 ≤ b.toNat ∧ b.toNat ≤ 57)) (h0 : k = 0 → b ≠ 45) : parseI l = none := by
  cases h : parseI l with
  | none => rfl
  | some v =>
    obtain ⟨_, e, _⟩ := parseI_some h
    rw [e] at hk
    rcases itoa_at hk with ⟨rfl, _, e⟩ | h
    · exact absurd e (h0 rfl)
    · exact absurd h hb
theorem parseI_long {l : List UInt8} (h : 12 < l.length) : parseI l = none := by
  cases hp : parseI l with
  | none => rfl
  | some v => have := parseI_len hp; omega
/-- The digits behind the sign spell n: the text is that of n, or of no number. -/
theorem parseI_pos {l : List UInt8} {n : Nat} (h : decFrom 0 l = some n) (hne : fmtI (n : Int) ≠ l) : parseI l = none := by
  cases hp : parseI l with
  | none => rfl
  | some v =>
    obtain ⟨_, e, e'⟩ := parseI_some hp
    exfalso
    unfold itoa at e
    split at e
    · rw [e] at h; simp [decFrom, digitVal] at h
    · rename_i hv
      rw [e, decFrom_decDigits] at h
      have : (n : Int) = v := by have := Option.some.inj h; omega
      rw [this] at hne
      exact hne e'
theorem parseI_neg {l : List UInt8} {n : Nat} (h : decFrom 0 l = some n) (hne : fmtI (-(n : Int)) ≠ 45 :: l) : parseI (45 :: l) = none := by
  cases hp : parseI (45 :: l) with
  | none => rfl
  | some v =>
    obtain ⟨_, e, e'⟩ := parseI_some hp
    exfalso
    unfold itoa at e
    split at e
    · rename_i hv
      obtain rfl := (List.cons.inj e).2
      rw [decFrom_decDigits] at h
      have : -(n : Int) = v := by have := Option.some.inj h; omega
      rw [this] at hne
      exact hne e'
    · have := (decDigits_digit (u := v.toNat) (b := 45) (by rw [← e]; simp)).1
      exact absurd this (by decide)
/-- What strconv.Atoi gives, held against the text again. -/
theorem parseI_atoiAll {l : List UInt8} : parseI l = match atoiAll l with | .ok v => if fmtI v = l ∧ l ≠ [] then some v else none | _ => none := by
  by_cases hl : l.length ≤ 18
  · rw [atoiAll_short l hl]
    unfold parseI
    cases ha : atoi l with
    | none => rfl
    | some v =>
      have hne : l ≠ [] := by rintro rfl; simp [atoi] at ha
      simp [NumEnd.ofOption, Option.filter_some, hne]
  · rw [parseI_long (by omega)]
    have hbad : ∀ v, fmtI v ≠ l := fun v e => by have := fmtI_len v; rw [e] at this; omega
    cases atoiAll l <;> simp [hbad]
end Go.Proofs.YtnlbojckobgjpaaGreatDoor

/- Contracts of the small functions on ints. -/
namespace Go.Proofs.YtnlbojckobgjpaaGreatDoor
open Go.RowKit

abbrev vBucket (x y z u : Int) : Value := .agg #[.int .i64 x, .int .i64 y, .int .i64 z, .int .i64 u]
def clampF (n lo hi : Int) : Int := if hi < lo ∨ n < lo then lo else if n > hi then hi else n
def inB (n lo hi : Int) : Bool := decide (lo ≤ n) && decide (n ≤ hi)
theorem inB_true {n lo hi : Int} (h : inB n lo hi = true) : lo ≤ n ∧ n ≤ hi := by simpa [inB] using h
theorem inB_false {n lo hi : Int} (h : inB n lo hi = false) : n < lo ∨ hi < n := by
  by_cases h1 : n < lo
  · exact .inl h1
  · right; simp [inB] at h; omega
theorem inB_mk {n lo hi : Int} (h1 : lo ≤ n) (h2 : n ≤ hi) : inB n lo hi = true := by simp [inB, h1, h2]
theorem inB_lo {n lo hi : Int} (h1 : n < lo) : inB n lo hi = false := by simp [inB]; intro; omega
theorem inB_hi {n lo hi : Int} (h1 : hi < n) : inB n lo hi = false := by simp [inB]; intro; omega
def absF (n : Int) : Int := if n < 0 then -n else n
set_option maxHeartbeats 400000 in
theorem S_in (n lo hi : Int) (w : World) :
    Calls Tryz.prog 98 #[.int .i64 n, .int .i64 lo, .int .i64 hi] w fun e w' => e = .returned (.bool (inB n lo hi)) ∧ w = w' := by
  go_enter Tryz.func98, Tryz.ntmps98
  go_wp2
  all_goals
    go_ret
    exact ⟨ret_bool (by unfold inB; first | rfl | (rw [Bool.eq_iff_iff]; simp; try omega)), rfl⟩
set_option maxHeartbeats 400000 in
theorem I_within (n lo hi : Int) (w : World) :
    Calls Tryz.prog 37 #[.int .i64 n, .int .i64 lo, .int .i64 hi] w fun e w' => e = .returned (.bool (inB n lo hi)) ∧ w = w' := by
  go_enter Tryz.func37, Tryz.ntmps37
  go_wp2
  all_goals
    go_ret
    exact ⟨ret_bool (by unfold inB; first | rfl | (rw [Bool.eq_iff_iff]; simp; try omega)), rfl⟩
theorem S_in_is {n lo hi : Int} {b : Bool} (hb : inB n lo hi = b) (w : World) : Calls Tryz.prog 98 #[.int .i64 n, .int .i64 lo, .int .i64 hi] w fun e w' => e = .returned (.bool b) ∧ w = w' := by
  subst hb; exact S_in n lo hi w
theorem I_within_is {n lo hi : Int} {b : Bool} (hb : inB n lo hi = b) (w : World) : Calls Tryz.prog 37 #[.int .i64 n, .int .i64 lo, .int .i64 hi] w fun e w' => e = .returned (.bool b) ∧ w = w' := by
  subst hb; exact I_within n lo hi w
end Go.Proofs.YtnlbojckobgjpaaGreatDoor

/- Texts of integers: the reference's FormatInt and the program's. -/
namespace Go.Proofs.YtnlbojckobgjpaaGreatDoor
open Go.RowKit Go.Lib
set_option maxRecDepth 100000
abbrev str (l : List UInt8) : Value := .string ⟨l.toArray⟩
theorem conv_byte (b : UInt8) (n : Int) (hn : n = (b.toNat : Int)) (W : World) :
    (convert 22 9 (.slice (some ⟨W.heap.size, 0, none⟩) 1 1)).run Tryz.prog (W.alloc (.cells #[.int .u8 n] 5)) = .ok (str [b]) (W.alloc (.cells #[.int .u8 n] 5)) :=
  run_convert_bytes_back _ _ _ _ _ _ [b] Tryz.underlying22 Tryz.underlying5 Tryz.underlying9 (fun j hj => by
    obtain rfl : j = 0 := by simpa using hj
    subst hn
    exact World.cell?_alloc_new _ _ _ _)
/-- The byte of a digit. -/
def dgt (d : Nat) : UInt8 := UInt8.ofNat (48 + d)
theorem str_cat (a b : List UInt8) : ({ data := a.toArray } ++ { data := b.toArray } : ByteArray) = ⟨(a ++ b).toArray⟩ := by
  apply ByteArray.ext; simp
theorem dec_len {m n : Nat} {s : List UInt8} (h : decDigits m ++ s = decDigits n) (hn : n ≤ 1000000000) : s.length ≤ 10 := by
  have h1 := congrArg List.length h
  rw [List.length_append, decDigits_length n] at h1
  have := nDigits_le 9 n (by omega)
  omega
theorem ofNat_dig {d : Nat} (h : d < 10) : (48 + (d : Int)) = ((dgt d).toNat : Int) := by
  unfold dgt
  have : (UInt8.ofNat (48 + d)).toNat = 48 + d := by simp [UInt8.toNat_ofNat']; omega
  rw [this]; omega
theorem u8_dig {d : Nat} (h : d < 10) : IntKind.u8.wrap (48 + (d : Int)) = 48 + d := by
  have e : (2 : Int) ^ IntKind.u8.bits = 256 := rfl
  have e' : IntKind.u8.signed = false := rfl
  simp only [IntKind.wrap, e, e']
  simp
  omega
theorem dig_step {m : Nat} (h : 9 < m) : ∃ d q : Nat, (m : Int).tmod 10 = d ∧ (m : Int).tdiv 10 = q ∧ (d < 10 ∧ q * 10 + d = m) ∧ decDigits m = decDigits q ++ [dgt d] := by
  refine ⟨m % 10, m / 10, ?_, ?_, ⟨by omega, by omega⟩, ?_⟩
  · rw [Int.tmod_eq_emod_of_nonneg (by omega)]; omega
  · rw [Int.tdiv_eq_ediv_of_nonneg (by omega)]; omega
  · rw [decDigits, dif_neg (by omega)]; rfl
end Go.Proofs.YtnlbojckobgjpaaGreatDoor

/- append onto a slice of the call's own, of a source that can be read: a law in the words RS and Grow. No program in sight. -/
namespace Go.Proofs.YtnlbojckobgjpaaGreatDoor
open Go.RowKit
/-- The slice .slice A n c is the call's own (nil, or the first part of a block from base on), with the cells xs. -/
def Grow (w : World) (base : Nat) (e : TypeId) (size : Nat) (A : Option Addr) (n c : Nat) (xs : List Value) : Prop := w.ownsRow base e size (.slice A n c) n xs
section
variable {w w' : World} {base : Nat} {e : TypeId} {size n c : Nat} {A : Option Addr} {xs : List Value}
theorem Grow.len (h : Grow w base e size A n c xs) : xs.length = n * size := h.1
theorem Grow.shape (h : Grow w base e size A n c xs) : (A = none ∧ n = 0 ∧ c = 0) ∨ ∃ g cur, A = some ⟨g, 0, none⟩ ∧ base ≤ g ∧ w.heap[g]? = some (.cells cur e (0, 0)) ∧ n ≤ c ∧ c ≤ maxLen ∧ cur.size = c * size ∧ cur.toList.take (n * size) = xs := by
  rcases h.2 with ⟨h1, h2⟩ | ⟨g, cap, cur, h1, h2⟩
  · injection h1 with a b c
    exact .inl ⟨a, h2, c⟩
  · injection h1 with a b c
    subst c
    exact .inr ⟨g, cur, a, h2⟩
theorem Grow.ge (h : Grow w base e size A n c xs) : ∀ x, x ∈ gOf A → base ≤ x := by
  intro x hx
  rcases h.shape with ⟨rfl, _, _⟩ | ⟨g, cur, rfl, hb, _⟩
  · cases hx
  · simp [gOf] at hx; omega
theorem Grow.lt (h : Grow w base e size A n c xs) : ∀ x, x ∈ gOf A → x < w.heap.size := by
  intro x hx
  rcases h.shape with ⟨rfl, _, _⟩ | ⟨g, cur, rfl, hb, hg, _⟩
  · cases hx
  · simp [gOf] at hx; subst hx; exact (Array.getElem?_eq_some_iff.1 hg).1
theorem Grow.ownS (h : Grow w base e size A n c xs) : OwnS w size A n c e xs := by
  rcases h.shape with ⟨rfl, rfl, rfl⟩ | ⟨g, cur, rfl, hb, hg, h1, h2, h3, h4⟩
  · exact ⟨h.1, Nat.le_refl _, Nat.zero_le _, .inl ⟨rfl, rfl⟩⟩
  · refine ⟨h.1, h1, h2, .inr ⟨g, cur.toList.drop (n * size), rfl, ?_⟩⟩
    unfold Own
    rw [← h4, List.take_append_drop]
    exact hg
theorem Grow.rs (h : Grow w base e size A n c xs) : RS w size A n c xs := h.ownS.rs
theorem Grow.keep (h : Grow w base e size A n c xs) (hb : ∀ x, x ∈ gOf A → w'.heap[x]? = w.heap[x]?) : Grow w' base e size A n c xs := by
  refine ⟨h.1, ?_⟩
  rcases h.shape with ⟨rfl, rfl, rfl⟩ | ⟨g, cur, rfl, hb', hg, rest⟩
  · exact .inl ⟨rfl, rfl⟩
  · exact .inr ⟨g, c, cur, rfl, hb', (hb g (by simp [gOf])).trans hg, rest⟩
theorem Grow.step (hb : Below w.heap.size w w') (h : Grow w base e size A n c xs) : Grow w' base e size A n c xs := h.keep (fun x hx => hb.block x (h.lt x hx))
theorem Grow.alloc (h : Grow w base e size A n c xs) (o : Obj) : Grow (w.alloc o) base e size A n c xs := h.step ((Below.refl _ _).alloc (Nat.le_refl _) o)
theorem Grow.drew (h : Grow w base e size A n c xs) : Grow w.drew base e size A n c xs := h
theorem Grow.drewN (h : Grow w base e size A n c xs) (k : Nat) : Grow (w.drewN k) base e size A n c xs := h
theorem Grow.far (h : Grow w base e size A n c xs) {p : Addr} (hp : p.block < base) (u : Value) : Grow (w.setCell p u) base e size A n c xs :=
  h.keep (fun x hx => Below.heap_setCell w p u x (by have := h.ge x hx; omega))
theorem Grow.only {B : Nat} {G : List Nat} (h : Grow w base e size A n c xs) (hO : Only B G w w') (hg : ∀ x, x ∈ gOf A → x < B ∧ x ∉ G) : Grow w' base e size A n c xs := h.keep (fun x hx => hO.block x (hg x hx).1 (hg x hx).2)
theorem Grow.mono (h : Grow w base e size A n c xs) {b : Nat} (hb : b ≤ base) : Grow w b e size A n c xs := by
  refine ⟨h.1, ?_⟩
  rcases h.shape with ⟨rfl, rfl, rfl⟩ | ⟨g, cur, rfl, hb', hg, rest⟩
  · exact .inl ⟨rfl, rfl⟩
  · exact .inr ⟨g, c, cur, rfl, Nat.le_trans hb hb', hg, rest⟩
theorem Grow.nil (w : World) (base : Nat) (e : TypeId) (size : Nat) : Grow w base e size none 0 0 [] := ⟨by simp, .inl ⟨rfl, rfl⟩⟩
/-- A slice over a whole new block. -/
theorem Grow.of_own {g : Nat} (h : Own w g e xs) (hl : xs.length = n * size) (hb : base ≤ g) (hn : n ≤ maxLen) : Grow w base e size (some ⟨g, 0, none⟩) n n xs := by
  refine ⟨hl, .inr ⟨g, n, ⟨xs⟩, rfl, hb, h, Nat.le_refl _, hn, hl, ?_⟩⟩
  rw [← hl]; exact List.take_of_length_le (Nat.le_refl _)
theorem Grow.lit (w : World) (cs : Array Value) (n : Nat) (hs : cs.toList.length = n * size) (hb : base ≤ w.heap.size) (hn : n ≤ maxLen) : Grow (w.alloc (.cells cs e)) base e size (some ⟨w.heap.size, 0, none⟩) n n cs.toList :=
  Grow.of_own (Own.new w e cs) hs hb hn
theorem Grow.lit_at {w : World} {cs : Array Value} {g n : Nat} (hg : g = w.heap.size) (hs : cs.toList.length = n * size) (hb : base ≤ w.heap.size) (hn : n ≤ maxLen) : Grow (w.alloc (.cells cs e)) base e size (some ⟨g, 0, none⟩) n n cs.toList := by
  subst hg; exact Grow.lit w cs n hs hb hn
end
/-- What append leaves. -/
def Appended (w : World) (base : Nat) (e : TypeId) (size : Nat) (A : Option Addr) (n : Nat) (xs : List Value) (A' : Option Addr) (n' c' : Nat) (w' : World) : Prop :=
  Grow w' base e size A' n' c' xs ∧ Below base w w' ∧ w.grownBy w' (A.map (·.block)) ∧ w.heap.size ≤ w'.heap.size ∧ (gOf A' = gOf A ∨ gOf A' = [w.heap.size])
theorem Appended.far {w w' : World} {base : Nat} {e : TypeId} {size n n' c' : Nat} {A A' : Option Addr} {xs : List Value} (h : Appended w base e size A n xs A' n' c' w') {b : Nat} (hb : b < w.heap.size) (hA : b ∉ gOf A) :
    (∀ o, w'.cell? ⟨b, o, none⟩ = w.cell? ⟨b, o, none⟩) ∧ (∀ o, w'.frozen? ⟨b, o, none⟩ = w.frozen? ⟨b, o, none⟩) := by
  have hx := h.2.2.1.block b hb (by cases A <;> simp_all [gOf])
  exact ⟨fun o => World.cell?_of_block hx, fun o => World.frozen?_of_block hx⟩
theorem Grow.app {w w' : World} {b base : Nat} {e e' : TypeId} {size size' n n' c c2 m : Nat} {A A2 A' : Option Addr} {xs ys : List Value} (ap : Appended w base e' size' A2 m ys A' n' c2 w') (h : Grow w b e size A n c xs) (hd : ∀ x, x ∈ gOf A → x ∉ gOf A2) : Grow w' b e size A n c xs :=
  h.keep (fun x hx => ap.2.2.1.block x (h.lt x hx) (by have := hd x hx; cases A2 <;> simp_all [gOf]))
theorem Appended.keepRS {w w' : World} {base : Nat} {e : TypeId} {size n n' c' : Nat} {A A' : Option Addr} {xs : List Value} (h : Appended w base e size A n xs A' n' c' w') {a : World} {sz m d : Nat} {C : Option Addr} {ys : List Value} (hr : RS a sz C m d ys) (hb : Below a.heap.size a w) (hl : a.heap.size ≤ base) : RS w' sz C m d ys :=
  RS.step (hb.trans (h.2.1.mono hl)) hr
/-- Two literal slices, each appended to: the first row lives on, and the two rows lie apart. -/
theorem two_rows {X1 Y1 X2 Y2 : World} {base : Nat} {e1 e2 : TypeId} {s1 s2 m1 m2 n1 n2 c1 c2 b1 b2 : Nat} {A1 A2 : Option Addr} {xs ys : List Value} (g1 : Appended X1 base e1 s1 (some ⟨b1, 0, none⟩) m1 xs A1 n1 c1 Y1) (g2 : Appended X2 base e2 s2 (some ⟨b2, 0, none⟩) m2 ys A2 n2 c2 Y2)
    (hY : Below Y1.heap.size Y1 X2) (h1 : b1 < X1.heap.size) (hne : b1 ≠ b2) (h2 : b2 < X1.heap.size ∨ Y1.heap.size ≤ b2) : Grow Y2 base e1 s1 A1 n1 c1 xs ∧ (∀ x, x ∈ gOf A1 → x ∉ gOf A2) := by
  have hlt := g1.1.lt
  have hz := g1.2.2.2.1
  have hz2 := hY.size
  have hd : ∀ x, x ∈ gOf A1 → (x = b1 ∨ x = X1.heap.size) ∧ x < Y1.heap.size := by
    intro x hx
    refine ⟨?_, hlt x hx⟩
    rcases g1.2.2.2.2 with h | h
    · rw [h] at hx; left; simpa [gOf] using hx
    · rw [h] at hx; right; simpa using hx
  refine ⟨Grow.app g2 (Grow.step hY g1.1) (fun x hx hy => ?_), fun x hx hy => ?_⟩
  · have := hd x hx
    simp [gOf] at hy
    omega
  · have := hd x hx
    rcases g2.2.2.2.2 with h | h
    · rw [h] at hy; simp [gOf] at hy; omega
    · rw [h] at hy; simp at hy; omega
section
variable {P : Program} {w : World}
theorem run_app (t ty : TypeId) (base : Nat) (e : TypeId) (z : Value) (size bytes : Nat) (ht : P.underlying t = some (.slice e)) (hinfo : (P.info? e).map (fun i => (i.zero, i.size, i.bytes)) = some (some z, size, bytes)) (hzs : z.cells.size = size) (hsz : 0 < size)
    {A : Option Addr} {n c : Nat} {xs : List Value} (hown : Grow w base e size A n c xs) {B : Option Addr} {m d : Nat} {ys : List Value} (hr : RS w size B m d ys) (h1 : ∀ u ∈ ys, u.oneCell' = true)
    (h63 : n + m ≤ maxLen) (hbytes : (n + m) * bytes ≤ 140737488355328) (hbase : base ≤ w.heap.size) :
    ∃ A' c' w', (Builtin.append_ #[t, t] ty #[.slice A n c, .slice B m d]).run P w = .ok (.slice A' (n + m) c') w' ∧ Appended w base e size A n (xs ++ ys) A' (n + m) c' w' := by
  obtain ⟨i, hi, hz, hs, hby⟩ := info_parts hinfo
  have hbl : (Value.slice A n c).ownBlock = A.map (·.block) := by cases A <;> rfl
  have hge : ∀ k, A.map (·.block) = some k → base ≤ k := by
    intro k hk
    cases A with
    | none => simp at hk
    | some a => simp at hk; exact hown.ge k (by simp [gOf, hk])
  rcases B with _ | ad
  · have hm0 : m = 0 := by
      rcases Nat.eq_zero_or_pos m with h | h
      · exact h
      · obtain ⟨b, o, hA, _⟩ := hr.open_.2.2 h; cases hA
    subst hm0
    have hy : ys = [] := List.eq_nil_of_length_eq_zero (by have := hr.xlen; simpa using this)
    subst hy
    refine ⟨A, c, w, ?_, ?_, Below.refl _ _, ⟨rfl, rfl, rfl, Nat.le_refl _, fun _ _ _ => rfl⟩, Nat.le_refl _, .inl rfl⟩
    · rcases hown.shape with ⟨rfl, rfl, rfl⟩ | ⟨g, cur, rfl, _, _, hnc, _⟩
      · simp [Builtin.append_, run_underlying ht, sizeOf, typeInfo, hi, Builtin.lenOf, Builtin.firstCells]
      · simp [Builtin.append_, run_underlying ht, sizeOf, typeInfo, hi, Builtin.lenOf, Builtin.firstCells, hnc, storeCells]
    · rw [List.append_nil]; exact hown
  · have hnews : ∀ j u, ys[j]? = some u → w.cell? (ad.add j) = some u := by
      intro j u hu
      have hjl : j < ys.length := by
        rcases Nat.lt_or_ge j ys.length with h | h
        · exact h
        · rw [List.getElem?_eq_none h] at hu; cases hu
      have hx := hr.xlen
      have hm : 0 < m := by
        rcases Nat.eq_zero_or_pos m with h | h
        · rw [h, Nat.zero_mul] at hx; omega
        · exact h
      obtain ⟨b, o, hA, _, hcell⟩ := hr.open_.2.2 hm
      injection hA with hA
      subst hA
      have hadd : (Addr.mk b o none).add j = ⟨b, o + j, none⟩ := by
        unfold Addr.add; split
        · rename_i h; subst h; rfl
        · rfl
      rw [hadd, hcell j (by omega), hu]
    obtain ⟨v', w', hrun, h2, h3, h4, h5⟩ := run_append_own_at (P := P) w base t ty e i z size bytes ht hi hz hs hby hzs hsz (.slice A n c) n xs hown ad m d ys hr.xlen hnews h1 h63 hbytes hbase
    have hshape : ∃ A' c', v' = .slice A' (n + m) c' := by
      rcases h2.2 with ⟨h6, h7⟩ | ⟨g, cap, cur, h6, _⟩
      · exact ⟨none, 0, by rw [h6, h7]⟩
      · exact ⟨_, _, h6⟩
    obtain ⟨A', c', rfl⟩ := hshape
    have hbl' : (Value.slice A' (n + m) c').ownBlock = A'.map (·.block) := by cases A' <;> rfl
    rw [hbl, hbl'] at h5
    rw [hbl] at h3
    refine ⟨A', c', w', hrun, h2, (Below.refl base w).grown h3 hbase hge, h3, h3.size, ?_⟩
    rcases h5 with h5 | h5
    · left; cases A' <;> cases A <;> simp_all [gOf]
    · right; cases A' <;> simp_all [gOf]
/-- At the operation, in a plain region. -/
theorem wpList_app {ops : Array Oper} {rest : List Oper} {o : Oper} {a : Act} {Q : Exit → Act → World → Prop} (hgd : o.guard = none) (s x : Operand) (t : TypeId)
    (ho : o.op = .call { callee := .builtin .append, args := #[s, x], argTypes := #[t, t] })
    (base : Nat) (e : TypeId) (z : Value) (size bytes : Nat) (ht : P.underlying t = some (.slice e)) (hinfo : (P.info? e).map (fun i => (i.zero, i.size, i.bytes)) = some (some z, size, bytes)) (hzs : z.cells.size = size) (hsz : 0 < size)
    {A : Option Addr} {n c : Nat} {xs : List Value} (hs : a.eval s = .slice A n c) (hown : Grow w base e size A n c xs) {B : Option Addr} {m d : Nat} {ys : List Value} (hx : a.eval x = .slice B m d) (hr : RS w size B m d ys) (h1 : ∀ u ∈ ys, u.oneCell' = true)
    (h63 : n + m ≤ maxLen) (hbytes : (n + m) * bytes ≤ 140737488355328) (hbase : base ≤ w.heap.size)
    (h : ∀ A' c' w', Appended w base e size A n (xs ++ ys) A' (n + m) c' w' → wpList P ops Q rest (a.put o.dst (.slice A' (n + m) c')) w') : wpList P ops Q (o :: rest) a w := by
  refine wpList_plain hgd fun K hK => ?_
  obtain ⟨A', c', w', hrun, hap⟩ := run_app (P := P) t o.type base e z size bytes ht hinfo hzs hsz hown hr h1 h63 hbytes hbase
  unfold Oper.wp execOp
  simp only [ho, resolve, invoke, builtin, Sem.run_bind, Sem.run_pure, Result.andThen_ok, List.map_toArray, List.map_cons, List.map_nil, hs, hx, hrun]
  exact hK _ _ (h A' c' w' hap)
/-- At a step of a region that draws its order. -/
theorem step_app {ops : Array Oper} {o : Oper} {a : Act} {K : Act → World → Prop} {Q : Exit → Act → World → Prop} {E : Prop} (hgd : o.guard = none) (s x : Operand) (t : TypeId)
    (ho : o.op = .call { callee := .builtin .append, args := #[s, x], argTypes := #[t, t] })
    (base : Nat) (e : TypeId) (z : Value) (size bytes : Nat) (ht : P.underlying t = some (.slice e)) (hinfo : (P.info? e).map (fun i => (i.zero, i.size, i.bytes)) = some (some z, size, bytes)) (hzs : z.cells.size = size) (hsz : 0 < size)
    {A : Option Addr} {n c : Nat} {xs : List Value} (hs : a.eval s = .slice A n c) (hown : Grow w base e size A n c xs) {B : Option Addr} {m d : Nat} {ys : List Value} (hx : a.eval x = .slice B m d) (hr : RS w size B m d ys) (h1 : ∀ u ∈ ys, u.oneCell' = true)
    (h63 : n + m ≤ maxLen) (hbytes : (n + m) * bytes ≤ 140737488355328) (hbase : base ≤ w.heap.size)
    (h : ∀ A' c' w', Appended w base e size A n (xs ++ ys) A' (n + m) c' w' → K (a.put o.dst (.slice A' (n + m) c')) w') :
    if Region.wanted o (yielded ops a.tmps) = true then Oper.wp P o a w K Q else E := by
  have hw : Region.wanted o (yielded ops a.tmps) = true := by simp [Region.wanted, hgd]
  rw [if_pos hw]
  obtain ⟨A', c', w', hrun, hap⟩ := run_app (P := P) t o.type base e z size bytes ht hinfo hzs hsz hown hr h1 h63 hbytes hbase
  unfold Oper.wp execOp
  simp only [ho, resolve, invoke, builtin, Sem.run_bind, Sem.run_pure, Result.andThen_ok, List.map_toArray, List.map_cons, List.map_nil, hs, hx, hrun]
  exact h A' c' w' hap
end
theorem ints_one (l : List Int) : ∀ u ∈ ints l, u.oneCell' = true := by
  intro u hu
  obtain ⟨x, _, rfl⟩ := List.mem_map.1 hu
  rfl
theorem bools_one (l : List Bool) : ∀ u ∈ bools l, u.oneCell' = true := by
  intro u hu
  obtain ⟨x, _, rfl⟩ := List.mem_map.1 hu
  rfl
/-- A part of a slice. -/
theorem RS.part {w : World} {size n c : Nat} {A : Option Addr} {xs : List Value} (h : RS w size A n c xs) {b o : Nat} (hA : A = some ⟨b, o, none⟩) (i j d : Nat) (hij : i ≤ j) (hj : j ≤ n) (hd : j - i ≤ d) (hd2 : d ≤ maxLen) :
    RS w size (some ⟨b, o + i * size, none⟩) (j - i) d ((xs.drop (i * size)).take ((j - i) * size)) := by
  obtain ⟨h1, h2, h3⟩ := h.open_
  have hl := h.xlen
  have hm : i * size + (j - i) * size ≤ n * size := by rw [← Nat.add_mul]; exact Nat.mul_le_mul_right _ (by omega)
  refine ⟨by rw [List.length_take, List.length_drop]; omega, _, _, rfl, hd, hd2, fun hp => ?_⟩
  obtain ⟨b', o', hA', h4, h5⟩ := h3 (by omega)
  rw [hA] at hA'
  injection hA' with hA'
  injection hA' with e1 e2
  subst e1; subst e2
  refine ⟨b, o + i * size, rfl, Nat.zero_le _, h4, fun k hk => ?_⟩
  rw [List.getElem?_take_of_lt hk, List.getElem?_drop, Nat.add_assoc, h5 _ (by omega)]
end Go.Proofs.YtnlbojckobgjpaaGreatDoor

/- The frame of a law's statement: from 'the call returns true and turns nothing that was there' to the row. -/
namespace Go.Proofs.YtnlbojckobgjpaaGreatDoor
open Go.ChangeShapes Go.WideShapes Go.ChangeAt Go.RowKit

theorem P.own : ownKnob Tryz.prog.godebug = none := by kernel_rfl
theorem P.laidOut : laidOutB Tryz.prog = true := by kernel_rfl

/-- All arguments read behind the call as before. -/
theorem trodAll_below {H : Type} {enc : TypeId × Value → H} {W W' : World} : ∀ (ts : List TypeId) (vs : List Value) (ds : List (DataW H)) (ps : List MemPlace),
    (∀ t ∈ ts, Tryz.prog.readableRec t = true ∧ t < Tryz.prog.types.size) → DataW.TrodAll enc Tryz.prog W 0 (fun _ => true) true ts vs ds ps → Below W.heap.size W W' → (∀ x ∈ ps, x.block < W.heap.size) →
    DataW.TrodAll enc Tryz.prog W' 0 (fun b => decide (b < W.heap.size)) true ts vs ds ps
  | [], vs, ds, ps, _, h, _, _ => by
    obtain ⟨rfl, rfl, rfl⟩ := trodAll_nil h
    exact trodAll_mk0
  | t :: ts, vs, ds, ps, hr, h, hb, hlt => by
    obtain ⟨v, vs', d, ds', p, q, rfl, rfl, rfl, h0, r0⟩ := trodAll_cons h
    exact trodAll_cons_mk (Below.trod P.laidOut (hr t (by simp)).1 (hr t (by simp)).2 h0 hb (fun x hx => hlt x (by simp [hx]))) (trodAll_below ts vs' ds' q (fun t' ht' => hr t' (by simp [ht'])) r0 hb (fun x hx => hlt x (by simp [hx])))

theorem trodAll_len {H : Type} {enc : TypeId × Value → H} {W : World} {b : Nat} {sp : Nat → Bool} {hd : Bool} : ∀ (ts : List TypeId) (vs : List Value) (ds : List (DataW H)) (ps : List MemPlace), DataW.TrodAll enc Tryz.prog W b sp hd ts vs ds ps → ds.length = ts.length
  | [], vs, ds, ps, h => by
    obtain ⟨rfl, rfl, rfl⟩ := trodAll_nil h
    rfl
  | t :: ts, vs, ds, ps, h => by
    obtain ⟨v, vs', d, ds', p, q, rfl, rfl, rfl, h0, r0⟩ := trodAll_cons h
    simp [trodAll_len ts vs' ds' q r0]

/-- What a law's walk shows of its arguments' values. -/
def LawWalk (F : FuncId) (ts : List TypeId) : Prop :=
  ∀ (H : Type) (enc : TypeId × Value → H) (W : World) (base : Nat) (args : Array Value) (ds : List (DataW H)) (ps : List MemPlace),
    DataW.TrodAll enc Tryz.prog W 0 (fun _ => true) true ts args.toList ds ps → (∀ (j : Nat) t v, ts[j]? = some t → args[j]? = some v → Value.okWide Tryz.prog W .any base t v) → (∀ x ∈ ps, x.block < W.heap.size) →
    Calls Tryz.prog F args W fun e W' => e = .returned (.bool true) ∧ Below W.heap.size W W'

set_option maxRecDepth 100000 in
theorem law_lifted (F : FuncId) (fn : Func) (s : ChangeSpec) (ts : List TypeId) (os : Os) (started : os.Started) (H : Type) (enc : TypeId × Value → H)
    (hfn : Tryz.checked.prog.funcs[F]? = some fn) (hidx : Tryz.checked.prog.inits.idxOf? F = none) (hp : fn.params = ⟨ts⟩) (hr : fn.resultTypes = #[4]) (hv : s.vars = [])
    (hs : ∀ ds : List (DataW H), ds.length = ts.length → (s.fn H (ds ++ [])).results = [.lit (.bool true)] ∧ (s.fn H (ds ++ [])).args = ds ∧ (s.fn H (ds ++ [])).vars = [])
    (hread : ∀ t ∈ ts, Tryz.prog.readableRec t = true ∧ t < Tryz.prog.types.size)
    (hwit : ∃ (w : World) (tape : Nat → Question → Nat) (i : Input), w.os = os ∧ World.Shaped Tryz.checked.prog (w.forCall tape i) ∧ i.vars = [] ∧ Input.okWide Tryz.checked.prog (w.forCall tape i) Reach.any w.heap.size F i ∧
      ChangeSpec.pre6 enc Tryz.checked.prog fn s [] false (w.forCall tape i).memory i.args ∧ Assume.holds {} Tryz.checked.prog (lone (Frame.enter Tryz.checked.prog F i.args CallKind.normal) [] (w.forCall tape i)))
    (hw : LawWalk F ts) :
    ReturnsInHanded {} Tryz.checked os F .any (s.pre6 enc Tryz.prog fn [] false) (s.post enc Tryz.prog fn false true false false) := by
  refine returnsInHanded_of_change (C := Tryz.checked) P.own started hidx hfn hwit ?_
  intro W base args ds gs before hval0 hW hcnd _
  have hval : ∀ (j : Nat) t v, fn.params[j]? = some t → args[j]? = some v → Value.okWide Tryz.prog W .any base t v := hval0
  have hW' := hW
  obtain ⟨p, q, hA0, hV, rfl, hfz, hnd⟩ := hW
  have hA : DataW.TrodAll enc Tryz.prog W 0 (fun _ => true) true fn.params.toList args.toList ds p := hA0
  rw [hv] at hV
  obtain ⟨rfl, rfl⟩ := trodVars_none hV
  rw [hp] at hA hval
  have hlt : ∀ x ∈ p, x.block < W.heap.size := fun x hx => hW'.lt x (by simp [hx])
  have hl : ds.length = ts.length := trodAll_len ts _ _ _ hA
  obtain ⟨e1, e2, e3⟩ := hs ds hl
  simp only [List.append_nil] at hW'
  refine (hw H enc W base args ds p hA (fun j t v h1 h2 => hval j t v (by simpa using h1) h2) hlt).mono fun e W' ⟨he, bel⟩ => ?_
  subst he
  refine ⟨_, rfl, _, _, _, [], p, [], hW', ?_, ?_, ?_, bel.frame _, fun h => by cases h⟩
  · rw [e1, hr]
    exact trodAll_mk1 (shut_bool Tryz.underlying4 _)
  · rw [e2, hp]
    exact trodAll_below ts _ _ _ hread hA bel hlt
  · rw [e3, hv]
    rfl
end Go.Proofs.YtnlbojckobgjpaaGreatDoor

/- A law's arguments opened: what can be read as data is cells of a known make. -/
namespace Go.Proofs.YtnlbojckobgjpaaGreatDoor
open Go.ChangeShapes Go.WideShapes Go.ChangeAt Go.RowKit Go.Deep
open Go.ChangeMaps (open_string shut_string)
set_option maxRecDepth 100000

theorem T.cellInt : Tryz.prog.cellsOf 3 = 1 := by kernel_rfl
theorem T.cellBool : Tryz.prog.cellsOf 4 = 1 := by kernel_rfl
section
variable {H : Type} {enc : TypeId × Value → H} {W : World}

/-- The cells cs can be read as a datum of type t. -/
def Can (enc : TypeId × Value → H) (W : World) (t : TypeId) (cs : List Value) : Prop := ∃ fuel x, DataW.trod enc Tryz.prog W 0 (fun _ => true) true fuel t cs = some x
/-- An argument. -/
def Arg (enc : TypeId × Value → H) (W : World) (t : TypeId) (v : Value) : Prop := Can enc W t v.cells.toList ∧ ∃ base, Value.okWide Tryz.prog W .any base t v

theorem Can.int {t : TypeId} {k : IntKind} {cs : List Value} (h : Can enc W t cs) (ht : Tryz.prog.underlying t = some (.int k)) : ∃ n, cs = [.int k n] ∧ (Lit.int k n).wf = true := by
  obtain ⟨fuel, x, h⟩ := h
  obtain ⟨n, h1, _, h2⟩ := DataW.trod_int ht h
  exact ⟨n, h1, h2⟩
theorem Can.bool {t : TypeId} {cs : List Value} (h : Can enc W t cs) (ht : Tryz.prog.underlying t = some .bool) : ∃ b, cs = [.bool b] := by
  obtain ⟨fuel, x, h⟩ := h
  obtain ⟨b, h1, _⟩ := DataW.trod_bool ht h
  exact ⟨b, h1⟩
theorem Can.string {t : TypeId} {cs : List Value} (h : Can enc W t cs) (ht : Tryz.prog.underlying t = some .string) : ∃ s : ByteArray, cs = [.string s] ∧ s.size ≤ maxLen := by
  obtain ⟨fuel, x, h⟩ := h
  obtain ⟨s, h1, _, h2⟩ := DataW.trod_string ht h
  exact ⟨s, h1, h2⟩
theorem Can.field {t : TypeId} {fs : Array Field} {cs : List Value} (h : Can enc W t cs) (ht : Tryz.prog.underlying t = some (.struct fs)) (i : Nat) (f : Field) (hf : fs[i]? = some f) :
    Can enc W f.type ((cs.drop f.offset).take (Tryz.prog.cellsOf f.type)) := by
  obtain ⟨fuel, x, h⟩ := h
  obtain ⟨xs, n, _, hx, hl, hlen, hg⟩ := DataW.trod_struct ht h
  have h1 := hg i f hf
  have hi : i < xs.length := by rw [hlen]; exact (Array.getElem?_eq_some_iff.1 hf).1
  rw [List.getElem?_eq_getElem hi] at h1
  exact ⟨n, _, h1⟩
/-- One field, by its number, type, offset and number of cells. -/
theorem Can.fieldAt {t : TypeId} {fs : Array Field} {cs : List Value} (h : Can enc W t cs) (ht : Tryz.prog.underlying t = some (.struct fs)) (i : Nat) (ty off n : Nat) (hf : (fs[i]?).map (fun f => (f.type, f.offset)) = some (ty, off)) (hn : Tryz.prog.cellsOf ty = n) :
    Can enc W ty ((cs.drop off).take n) := by
  obtain ⟨f, hf', he⟩ := Option.map_eq_some_iff.1 hf
  have := h.field ht i f hf'
  simp only [Prod.mk.injEq] at he
  rw [he.1, he.2, hn] at this
  exact this
theorem Can.struct_len {t : TypeId} {fs : Array Field} {cs : List Value} (h : Can enc W t cs) (ht : Tryz.prog.underlying t = some (.struct fs)) : cs.length = Tryz.prog.cellsOf t := by
  obtain ⟨fuel, x, h⟩ := h
  obtain ⟨xs, n, _, hx, hl, hlen, hg⟩ := DataW.trod_struct ht h
  exact hl
theorem Can.slice {t e : TypeId} {cs : List Value} (h : Can enc W t cs) (ht : Tryz.prog.underlying t = some (.slice e)) (size : Nat) (hsz : Tryz.prog.cellsOf e = size) (hpos : 0 < size) :
    ∃ (v : Value) (n : Nat) (xs : List Value), cs = [v] ∧ Rd W 0 W.heap.size size v n xs ∧ ∀ i, i < n → Can enc W e ((xs.drop (i * size)).take size) := by
  obtain ⟨fuel, x, h⟩ := h
  subst hsz
  rcases open_slice ht h with ⟨rfl, _⟩ | ⟨a, len, cap, m, n, D, Pl, rfl, hb, hl, hm, hmm, hx, hi⟩
  · exact ⟨_, 0, [], rfl, ⟨by simp, none, 0, rfl, by simp, by simp, fun h => absurd h (by omega)⟩, fun i h => absurd h (by omega)⟩
  · have hml : len ≤ m := by simp at hmm; omega
    have hcell : ∀ i, i < len → ∀ j, j < Tryz.prog.cellsOf e → ∃ u, W.cell? (a.add (i * Tryz.prog.cellsOf e + j)) = some u := by
      intro i hi' j hj
      obtain ⟨cs', hc, _⟩ := hi i (by omega)
      obtain ⟨_, hcl, hat⟩ := World.cells?_some hc
      have := hat j hj
      rw [Go.Deep.add_add, List.getElem?_eq_getElem (by omega)] at this
      exact ⟨_, this⟩
    rcases Nat.eq_zero_or_pos len with h0 | h0
    · subst h0
      exact ⟨_, 0, [], rfl, ⟨by simp, some a, cap, rfl, by omega, hm, fun h => absurd h (by omega)⟩, fun i h => absurd h (by omega)⟩
    obtain ⟨b, off, spot⟩ := a
    have hspot : spot = none := by
      obtain ⟨u, hu⟩ := hcell 0 h0 0 hpos
      simpa [Addr.add] using World.cell?_spot hu
    subst hspot
    have hadd : ∀ k, (Addr.mk b off none).add k = ⟨b, off + k, none⟩ := by
      intro k; unfold Addr.add; split
      · rename_i h; subst h; rfl
      · rfl
    have hall : ∀ j, j < len * Tryz.prog.cellsOf e → ∃ u, W.cell? ⟨b, off + j, none⟩ = some u := by
      intro j hj
      have h1 : j / Tryz.prog.cellsOf e < len := by rw [Nat.div_lt_iff_lt_mul hpos]; exact hj
      obtain ⟨u, hu⟩ := hcell (j / Tryz.prog.cellsOf e) h1 (j % Tryz.prog.cellsOf e) (Nat.mod_lt _ hpos)
      rw [Nat.div_add_mod', hadd] at hu
      exact ⟨u, hu⟩
    let xs := (List.range (len * Tryz.prog.cellsOf e)).map fun j => (W.cell? ⟨b, off + j, none⟩).getD undef
    have hxl : xs.length = len * Tryz.prog.cellsOf e := by simp [xs]
    have hxs : ∀ j, j < len * Tryz.prog.cellsOf e → W.cell? ⟨b, off + j, none⟩ = xs[j]? := by
      intro j hj
      obtain ⟨u, hu⟩ := hall j hj
      simp [xs, hj, hu]
    have hbl : b < W.heap.size := by
      obtain ⟨u, hu⟩ := hall 0 (Nat.mul_pos h0 hpos)
      exact block_lt_of_cell hu
    refine ⟨_, len, xs, rfl, ⟨hxl, _, cap, rfl, hl, hm, fun _ => ⟨b, off, rfl, Nat.zero_le _, hbl, hxs⟩⟩, fun i hi' => ?_⟩
    obtain ⟨cs', hc, ht'⟩ := hi i (by omega)
    obtain ⟨_, hcl, hat⟩ := World.cells?_some hc
    have hle : (i + 1) * Tryz.prog.cellsOf e ≤ len * Tryz.prog.cellsOf e := Nat.mul_le_mul_right _ hi'
    rw [Nat.succ_mul] at hle
    have : (xs.drop (i * Tryz.prog.cellsOf e)).take (Tryz.prog.cellsOf e) = cs' := by
      apply List.ext_getElem?
      intro j
      by_cases hj : j < Tryz.prog.cellsOf e
      · have h1 := hat j hj
        rw [Go.Deep.add_add, hadd, hxs _ (by omega)] at h1
        rw [List.getElem?_take_of_lt hj, List.getElem?_drop]
        exact h1
      · rw [List.getElem?_eq_none (by simp; omega), List.getElem?_eq_none (by omega)]
    rw [this]
    exact ⟨n, _, ht'⟩

theorem range_i64 {n : Int} (h : (Lit.int .i64 n).wf = true) : -9223372036854775808 ≤ n ∧ n ≤ 9223372036854775807 := bounds_i64 h

/-- []int -/
theorem Can.intRow {t e : TypeId} {cs : List Value} (h : Can enc W t cs) (ht : Tryz.prog.underlying t = some (.slice e)) (he : Tryz.prog.underlying e = some (.int .i64)) (hsz : Tryz.prog.cellsOf e = 1) :
    ∃ (v : Value) (l : List Int), cs = [v] ∧ Rd W 0 W.heap.size 1 v l.length (ints l) ∧ ∀ n ∈ l, (Lit.int .i64 n).wf = true := by
  obtain ⟨v, n, xs, rfl, hr, hc⟩ := h.slice ht 1 hsz (by omega)
  have hl := hr.1
  have : ∃ l : List Int, xs = ints l ∧ ∀ n ∈ l, (Lit.int .i64 n).wf = true := by
    have key : ∀ u ∈ xs, ∃ n, u = Value.int .i64 n ∧ (Lit.int .i64 n).wf = true := by
      intro u hu
      obtain ⟨i, hi, rfl⟩ := List.getElem_of_mem hu
      obtain ⟨m, hm, hw⟩ := (hc i (by omega)).int he
      rw [Nat.mul_one, List.drop_eq_getElem_cons hi, List.take_succ_cons] at hm
      injection hm with hm _
      exact ⟨m, hm, hw⟩
    clear hl hc hr
    induction xs with
    | nil => exact ⟨[], rfl, by simp⟩
    | cons u xs ih =>
      obtain ⟨l, rfl, hl⟩ := ih (fun u hu => key u (by simp [hu]))
      obtain ⟨n, rfl, hn⟩ := key u (by simp)
      exact ⟨n :: l, rfl, by simpa using ⟨hn, hl⟩⟩
  obtain ⟨l, rfl, hw⟩ := this
  obtain rfl : n = l.length := by simp at hl; omega
  exact ⟨v, l, rfl, hr, hw⟩
/-- []bool -/
theorem Can.boolRow {t e : TypeId} {cs : List Value} (h : Can enc W t cs) (ht : Tryz.prog.underlying t = some (.slice e)) (he : Tryz.prog.underlying e = some .bool) (hsz : Tryz.prog.cellsOf e = 1) :
    ∃ (v : Value) (l : List Bool), cs = [v] ∧ Rd W 0 W.heap.size 1 v l.length (l.map Value.bool) := by
  obtain ⟨v, n, xs, rfl, hr, hc⟩ := h.slice ht 1 hsz (by omega)
  have hl := hr.1
  have : ∃ l : List Bool, xs = l.map Value.bool := by
    have key : ∀ u ∈ xs, ∃ n, u = Value.bool n := by
      intro u hu
      obtain ⟨i, hi, rfl⟩ := List.getElem_of_mem hu
      obtain ⟨m, hm⟩ := (hc i (by omega)).bool he
      rw [Nat.mul_one, List.drop_eq_getElem_cons hi, List.take_succ_cons] at hm
      injection hm with hm _
      exact ⟨m, hm⟩
    clear hl hc hr
    induction xs with
    | nil => exact ⟨[], rfl⟩
    | cons u xs ih =>
      obtain ⟨l, rfl⟩ := ih (fun u hu => key u (by simp [hu]))
      obtain ⟨n, rfl⟩ := key u (by simp)
      exact ⟨n :: l, rfl⟩
  obtain ⟨l, rfl⟩ := this
  obtain rfl : n = l.length := by simp at hl; omega
  exact ⟨v, l, rfl, hr⟩

theorem Arg.cell {t : TypeId} {v : Value} (h : Arg enc W t v) (hc : ∀ cs, v ≠ .agg cs) : Can enc W t [v] := by
  have := h.1
  cases v <;> first | exact this | exact absurd rfl (hc _)
theorem Arg.int {t : TypeId} {k : IntKind} {v : Value} (h : Arg enc W t v) (ht : Tryz.prog.underlying t = some (.int k)) : ∃ n, v = .int k n ∧ (Lit.int k n).wf = true := by
  obtain ⟨hc, base, ho⟩ := h
  obtain ⟨n, rfl⟩ := okWide_int ht ho
  obtain ⟨m, hm, hw⟩ := Can.int hc ht
  simp [Value.cells] at hm
  exact ⟨n, rfl, hm ▸ hw⟩
theorem Arg.bool {t : TypeId} {v : Value} (h : Arg enc W t v) (ht : Tryz.prog.underlying t = some .bool) : ∃ n, v = .bool n := by
  obtain ⟨hc, base, ho⟩ := h
  exact okWide_bool ht ho
theorem Arg.string {t : TypeId} {v : Value} (h : Arg enc W t v) (ht : Tryz.prog.underlying t = some .string) : ∃ s : ByteArray, v = .string s ∧ s.size ≤ maxLen := by
  obtain ⟨hc, base, ho⟩ := h
  obtain ⟨n, rfl⟩ := okWide_string ht ho
  obtain ⟨m, hm, hw⟩ := Can.string hc ht
  simp [Value.cells] at hm
  exact ⟨n, rfl, hm ▸ hw⟩
theorem Arg.slice {t e : TypeId} {v : Value} (h : Arg enc W t v) (ht : Tryz.prog.underlying t = some (.slice e)) : Can enc W t [v] := by
  obtain ⟨hc, base, ho⟩ := h
  obtain ⟨a, n, c, rfl⟩ := okWide_slice ht ho
  exact hc
theorem Arg.struct {t : TypeId} {fs : Array Field} {v : Value} (h : Arg enc W t v) (ht : Tryz.prog.underlying t = some (.struct fs)) : ∃ cs : List Value, v = .agg ⟨cs⟩ ∧ Can enc W t cs := by
  obtain ⟨hc, base, ho⟩ := h
  obtain ⟨cs, rfl, hsz⟩ := okWide_struct ht ho
  obtain ⟨cs⟩ := cs
  exact ⟨cs, rfl, hc⟩
end

section
variable {H : Type} {enc : TypeId × Value → H} {W : World} {base : Nat} {args : Array Value} {ds : List (DataW H)} {ps : List MemPlace}
theorem args1 {t0 : TypeId} (h : DataW.TrodAll enc Tryz.prog W 0 (fun _ => true) true [t0] args.toList ds ps) (hv : ∀ (j : Nat) t v, [t0][j]? = some t → args[j]? = some v → Value.okWide Tryz.prog W .any base t v) :
    ∃ v0, args = #[v0] ∧ Arg enc W t0 v0 := by
  obtain ⟨v0, vs0, d0, ds0, p0, q0, hargs, rfl, rfl, h0, r0⟩ := trodAll_cons h
  obtain ⟨rfl, rfl, rfl⟩ := trodAll_nil r0
  obtain rfl : args = #[v0] := by cases args; simp_all
  obtain ⟨f0, h0⟩ := h0
  exact ⟨v0, rfl, ⟨f0, _, h0⟩, base, hv 0 t0 v0 rfl rfl⟩
theorem args2 {t0 t1 : TypeId} (h : DataW.TrodAll enc Tryz.prog W 0 (fun _ => true) true [t0, t1] args.toList ds ps) (hv : ∀ (j : Nat) t v, [t0, t1][j]? = some t → args[j]? = some v → Value.okWide Tryz.prog W .any base t v) :
    ∃ v0 v1, args = #[v0, v1] ∧ Arg enc W t0 v0 ∧ Arg enc W t1 v1 := by
  obtain ⟨v0, vs0, d0, ds0, p0, q0, hargs, rfl, rfl, h0, r0⟩ := trodAll_cons h
  obtain ⟨v1, vs1, d1, ds1, p1, q1, rfl, rfl, rfl, h1, r1⟩ := trodAll_cons r0
  obtain ⟨rfl, rfl, rfl⟩ := trodAll_nil r1
  obtain rfl : args = #[v0, v1] := by cases args; simp_all
  obtain ⟨f0, h0⟩ := h0
  obtain ⟨f1, h1⟩ := h1
  exact ⟨v0, v1, rfl, ⟨⟨f0, _, h0⟩, base, hv 0 t0 v0 rfl rfl⟩, ⟨⟨f1, _, h1⟩, base, hv 1 t1 v1 rfl rfl⟩⟩
theorem args3 {t0 t1 t2 : TypeId} (h : DataW.TrodAll enc Tryz.prog W 0 (fun _ => true) true [t0, t1, t2] args.toList ds ps) (hv : ∀ (j : Nat) t v, [t0, t1, t2][j]? = some t → args[j]? = some v → Value.okWide Tryz.prog W .any base t v) :
    ∃ v0 v1 v2, args = #[v0, v1, v2] ∧ Arg enc W t0 v0 ∧ Arg enc W t1 v1 ∧ Arg enc W t2 v2 := by
  obtain ⟨v0, vs0, d0, ds0, p0, q0, hargs, rfl, rfl, h0, r0⟩ := trodAll_cons h
  obtain ⟨v1, vs1, d1, ds1, p1, q1, rfl, rfl, rfl, h1, r1⟩ := trodAll_cons r0
  obtain ⟨v2, vs2, d2, ds2, p2, q2, rfl, rfl, rfl, h2, r2⟩ := trodAll_cons r1
  obtain ⟨rfl, rfl, rfl⟩ := trodAll_nil r2
  obtain rfl : args = #[v0, v1, v2] := by cases args; simp_all
  obtain ⟨f0, h0⟩ := h0
  obtain ⟨f1, h1⟩ := h1
  obtain ⟨f2, h2⟩ := h2
  exact ⟨v0, v1, v2, rfl, ⟨⟨f0, _, h0⟩, base, hv 0 t0 v0 rfl rfl⟩, ⟨⟨f1, _, h1⟩, base, hv 1 t1 v1 rfl rfl⟩, ⟨⟨f2, _, h2⟩, base, hv 2 t2 v2 rfl rfl⟩⟩
theorem args4 {t0 t1 t2 t3 : TypeId} (h : DataW.TrodAll enc Tryz.prog W 0 (fun _ => true) true [t0, t1, t2, t3] args.toList ds ps) (hv : ∀ (j : Nat) t v, [t0, t1, t2, t3][j]? = some t → args[j]? = some v → Value.okWide Tryz.prog W .any base t v) :
    ∃ v0 v1 v2 v3, args = #[v0, v1, v2, v3] ∧ Arg enc W t0 v0 ∧ Arg enc W t1 v1 ∧ Arg enc W t2 v2 ∧ Arg enc W t3 v3 := by
  obtain ⟨v0, vs0, d0, ds0, p0, q0, hargs, rfl, rfl, h0, r0⟩ := trodAll_cons h
  obtain ⟨v1, vs1, d1, ds1, p1, q1, rfl, rfl, rfl, h1, r1⟩ := trodAll_cons r0
  obtain ⟨v2, vs2, d2, ds2, p2, q2, rfl, rfl, rfl, h2, r2⟩ := trodAll_cons r1
  obtain ⟨v3, vs3, d3, ds3, p3, q3, rfl, rfl, rfl, h3, r3⟩ := trodAll_cons r2
  obtain ⟨rfl, rfl, rfl⟩ := trodAll_nil r3
  obtain rfl : args = #[v0, v1, v2, v3] := by cases args; simp_all
  obtain ⟨f0, h0⟩ := h0
  obtain ⟨f1, h1⟩ := h1
  obtain ⟨f2, h2⟩ := h2
  obtain ⟨f3, h3⟩ := h3
  exact ⟨v0, v1, v2, v3, rfl, ⟨⟨f0, _, h0⟩, base, hv 0 t0 v0 rfl rfl⟩, ⟨⟨f1, _, h1⟩, base, hv 1 t1 v1 rfl rfl⟩, ⟨⟨f2, _, h2⟩, base, hv 2 t2 v2 rfl rfl⟩, ⟨⟨f3, _, h3⟩, base, hv 3 t3 v3 rfl rfl⟩⟩
end
end Go.Proofs.YtnlbojckobgjpaaGreatDoor

/- Rows of elements that hold rows of their own: what can be read. -/
namespace Go.Proofs.YtnlbojckobgjpaaGreatDoor
open Go.RowKit
set_option maxRecDepth 100000
abbrev ENode := Int × List UInt8 × Int × List Int
abbrev EAssign := List UInt8 × Int
abbrev EProg := List ENode × List EAssign
/-- A row of elements of sz cells, each of which is read as P says. -/
def RowOf {α : Type} (sz : Nat) (P : World → List Value → α → Prop) (w : World) (v : Value) (l : List α) : Prop :=
  ∃ (A : Option Addr) (c : Nat) (cs : List Value), v = .slice A l.length c ∧ RS w sz A l.length c cs ∧ ∀ (i : Nat) (h : i < l.length), P w ((cs.drop (i * sz)).take sz) l[i]
theorem RowOf.step {α : Type} {sz : Nat} {P : World → List Value → α → Prop} {w w' : World} {v : Value} {l : List α} (hb : Below w.heap.size w w') (hP : ∀ cs x, P w cs x → P w' cs x) (h : RowOf sz P w v l) : RowOf sz P w' v l := by
  obtain ⟨A, c, cs, rfl, hr, hc⟩ := h
  exact ⟨A, c, cs, rfl, RS.step hb hr, fun i hi => hP _ _ (hc i hi)⟩
theorem RowOf.len {α : Type} {sz : Nat} {P : World → List Value → α → Prop} {w : World} {v : Value} {l : List α} (h : RowOf sz P w v l) : l.length ≤ maxLen := by
  obtain ⟨A, c, cs, rfl, hr, hc⟩ := h
  exact hr.len
/-- The slice, and one element's cells. -/
theorem RowOf.open_ {α : Type} {sz : Nat} {P : World → List Value → α → Prop} {w : World} {v : Value} {l : List α} (h : RowOf sz P w v l) : ∃ (A : Option Addr) (c : Nat), v = .slice A l.length c ∧ l.length ≤ c ∧ c ≤ maxLen ∧
    ∀ (i : Nat) (hi : i < l.length), ∃ b o cs, A = some ⟨b, o, none⟩ ∧ b < w.heap.size ∧ P w cs l[i] ∧ cs.length = sz ∧ ∀ j, j < sz → w.cell? ⟨b, o + (i * sz + j), none⟩ = cs[j]? := by
  obtain ⟨A, c, cs, rfl, hr, hc⟩ := h
  have hxl := hr.xlen
  obtain ⟨h1, h2, h3⟩ := hr.open_
  refine ⟨A, c, rfl, h1, h2, fun i hi => ?_⟩
  obtain ⟨b, o, hA, hb, hcell⟩ := h3 (by omega)
  have hle : (i + 1) * sz ≤ l.length * sz := Nat.mul_le_mul_right _ hi
  rw [Nat.succ_mul] at hle
  refine ⟨b, o, _, hA, hb, hc i hi, by rw [List.length_take, List.length_drop]; omega, fun j hj => ?_⟩
  rw [hcell _ (by omega), List.getElem?_take_of_lt hj, List.getElem?_drop]
def IntsAt (w : World) (v : Value) (l : List Int) : Prop := ∃ (A : Option Addr) (c : Nat), v = .slice A l.length c ∧ RS w 1 A l.length c (ints l)
theorem IntsAt.step {w w' : World} {v : Value} {l : List Int} (hb : Below w.heap.size w w') (h : IntsAt w v l) : IntsAt w' v l := by
  obtain ⟨A, c, rfl, hr⟩ := h
  exact ⟨A, c, rfl, RS.step hb hr⟩
def NodeAt (w : World) (cs : List Value) (x : ENode) : Prop := ∃ v, cs = [.int .i64 x.1, str x.2.1, .int .i64 x.2.2.1, v] ∧ x.2.1.length ≤ maxLen ∧ IntsAt w v x.2.2.2
theorem NodeAt.step {w w' : World} (hb : Below w.heap.size w w') (cs : List Value) (x : ENode) (h : NodeAt w cs x) : NodeAt w' cs x := by
  obtain ⟨v, rfl, hl, hr⟩ := h
  exact ⟨v, rfl, hl, hr.step hb⟩
def AssignAt (w : World) (cs : List Value) (x : EAssign) : Prop := cs = [str x.1, .int .i64 x.2] ∧ x.1.length ≤ maxLen
abbrev NodesAt := RowOf 4 NodeAt
abbrev AssignsAt := RowOf 2 AssignAt
theorem NodesAt.step {w w' : World} {v : Value} {l : List ENode} (hb : Below w.heap.size w w') (h : NodesAt w v l) : NodesAt w' v l := RowOf.step hb (fun cs x hx => NodeAt.step hb cs x hx) h
theorem AssignsAt.step {w w' : World} {v : Value} {l : List EAssign} (hb : Below w.heap.size w w') (h : AssignsAt w v l) : AssignsAt w' v l := RowOf.step hb (fun cs x hx => hx) h
def ProgAt (w : World) (cs : List Value) (x : EProg) : Prop := ∃ u v, cs = [u, v] ∧ NodesAt w u x.1 ∧ AssignsAt w v x.2
theorem ProgAt.step {w w' : World} (hb : Below w.heap.size w w') (cs : List Value) (x : EProg) (h : ProgAt w cs x) : ProgAt w' cs x := by
  obtain ⟨u, v, rfl, h1, h2⟩ := h
  exact ⟨u, v, rfl, NodesAt.step hb h1, AssignsAt.step hb h2⟩
abbrev ProgsAt := RowOf 2 ProgAt
theorem ProgsAt.step {w w' : World} {v : Value} {l : List EProg} (hb : Below w.heap.size w w') (h : ProgsAt w v l) : ProgsAt w' v l := RowOf.step hb (fun cs x hx => ProgAt.step hb cs x hx) h
section
variable {H : Type} {enc : TypeId × Value → H} {W : World}
/-- A slice of what can be read element by element. -/
theorem Can.rowOf {α : Type} {t e : TypeId} {cs : List Value} {P : World → List Value → α → Prop} (h : Can enc W t cs) (ht : Tryz.prog.underlying t = some (.slice e)) (size : Nat) (hsz : Tryz.prog.cellsOf e = size) (hpos : 0 < size) (hP : ∀ ys, Can enc W e ys → ∃ x, P W ys x) :
    ∃ (v : Value) (l : List α), cs = [v] ∧ RowOf size P W v l := by
  obtain ⟨v, n, xs, rfl, hr, hc⟩ := h.slice ht size hsz hpos
  have hch : ∀ m, m ≤ n → ∃ l : List α, l.length = m ∧ ∀ (i : Nat) (h : i < l.length), P W ((xs.drop (i * size)).take size) l[i] := by
    intro m
    induction m with
    | zero => intro _; exact ⟨[], rfl, fun i h => absurd h (by simp)⟩
    | succ m ih =>
      intro hm
      obtain ⟨l, hl, hp⟩ := ih (by omega)
      obtain ⟨x, hx⟩ := hP _ (hc m (by omega))
      refine ⟨l ++ [x], by simp [hl], fun i hi => ?_⟩
      rcases Nat.lt_or_ge i l.length with h1 | h1
      · rw [List.getElem_append_left h1]; exact hp i h1
      · have hi' : i = l.length := by simp at hi; omega
        subst hi'
        rw [List.getElem_concat_length rfl, hl]; exact hx
  obtain ⟨l, hl, hp⟩ := hch n (Nat.le_refl _)
  subst hl
  have u := hr
  obtain ⟨_, A, c, rfl, _⟩ := hr
  exact ⟨_, l, rfl, A, c, xs, rfl, RS.mk_ u, hp⟩
end
section
variable {H : Type} {enc : TypeId × Value → H} {W : World}
theorem Can.ints {cs : List Value} (h : Can enc W 37 cs) : ∃ (v : Value) (l : List Int), cs = [v] ∧ IntsAt W v l := by
  obtain ⟨v, l, rfl, hr, _⟩ := h.intRow Tryz.underlying37 Tryz.underlying3 T.cellInt
  have u := hr
  obtain ⟨_, A, c, rfl, _⟩ := hr
  exact ⟨_, l, rfl, A, c, rfl, RS.mk_ u⟩
theorem Can.str {cs : List Value} (h : Can enc W 9 cs) : ∃ l : List UInt8, cs = [str l] ∧ l.length ≤ maxLen := by
  obtain ⟨s, rfl, hs⟩ := h.string Tryz.underlying9
  exact ⟨s.data.toList, rfl, hs⟩
end
end Go.Proofs.YtnlbojckobgjpaaGreatDoor
