/- Rows of wide elements, element by element, with a floor for the blocks: what is new lies from the floor on. No program in sight. -/
import Derived.Test.YtnlbojckobgjpaaDoorDRow
import Derived.Test.YtnlbojckobgjpaaDoorBigW
import Derived.Test.YtnlbojckobgjpaaDoorApp
import Derived.Laws.CopyRow
namespace Go.Proofs.YtnlbojckobgjpaaDoor
open Go.RowKit
set_option linter.unusedVariables false
/-- Nothing from block lo on is turned. -/
structure Up (lo : Nat) (w w' : World) : Prop where
  size : w.heap.size ≤ w'.heap.size
  block : ∀ b, lo ≤ b → b < w.heap.size → w'.heap[b]? = w.heap[b]?
theorem Up.of_below {lo : Nat} {w w' : World} (hb : Below w.heap.size w w') : Up lo w w' := ⟨hb.size, fun b _ h => hb.block b h⟩
/-- How an element is read. -/
structure Elem (α : Type) where
  sz : Nat
  P : Nat → World → List Value → α → Prop
  len : ∀ {lo w ys x}, P lo w ys x → ys.length = sz
  one : ∀ {lo w ys x}, P lo w ys x → ys.all (·.oneCell') = true
  keep : ∀ {lo w w' ys x}, P lo w ys x → Up lo w w' → P lo w' ys x
  mono : ∀ {lo lo' w ys x}, P lo w ys x → lo' ≤ lo → P lo' w ys x
def lowA (lo : Nat) (A : Option Addr) : Prop := ∀ x, x ∈ gOf A → lo ≤ x
theorem RS.up {w w' : World} {size n c lo : Nat} {A : Option Addr} {xs : List Value} (h : RS w size A n c xs) (hl : lowA lo A) (hu : Up lo w w') : RS w' size A n c xs := by
  obtain ⟨hn, A', c', hv, h1, h2, h3⟩ := h
  injection hv with e1 e2 e3
  subst e1; subst e3
  refine ⟨hn, A, c, rfl, h1, h2, fun hp => ?_⟩
  obtain ⟨b, o, rfl, h4, h5, h6⟩ := h3 hp
  have hlb := hl b (by simp [gOf])
  refine ⟨b, o, rfl, h4, Nat.lt_of_lt_of_le h5 hu.size, fun j hj => ?_⟩
  rw [← h6 j hj]
  simp [World.cell?, hu.block b hlb h5]
/-- A row, its own block from the floor on. -/
def RowL {α : Type} (E : Elem α) (lo : Nat) (w : World) (v : Value) (l : List α) : Prop :=
  ∃ (A : Option Addr) (c : Nat) (cs : List Value), v = .slice A l.length c ∧ RS w E.sz A l.length c cs ∧ lowA lo A ∧ ∀ (i : Nat) (h : i < l.length), E.P lo w ((cs.drop (i * E.sz)).take E.sz) l[i]
theorem RowL.keep {α : Type} {E : Elem α} {lo : Nat} {w w' : World} {v : Value} {l : List α} (h : RowL E lo w v l) (hu : Up lo w w') : RowL E lo w' v l := by
  obtain ⟨A, c, cs, rfl, hr, hl, hc⟩ := h
  exact ⟨A, c, cs, rfl, hr.up hl hu, hl, fun i hi => E.keep (hc i hi) hu⟩
theorem RowL.mono {α : Type} {E : Elem α} {lo lo' : Nat} {w : World} {v : Value} {l : List α} (h : RowL E lo w v l) (hl : lo' ≤ lo) : RowL E lo' w v l := by
  obtain ⟨A, c, cs, rfl, hr, hA, hc⟩ := h
  exact ⟨A, c, cs, rfl, hr, fun x hx => Nat.le_trans hl (hA x hx), fun i hi => E.mono (hc i hi) hl⟩
theorem RowL.step {α : Type} {E : Elem α} {lo : Nat} {w w' : World} {v : Value} {l : List α} (hb : Below w.heap.size w w') (h : RowL E lo w v l) : RowL E lo w' v l := h.keep (Up.of_below hb)
theorem RowL.slice {α : Type} {E : Elem α} {lo : Nat} {w : World} {v : Value} {l : List α} (h : RowL E lo w v l) : ∃ A c, v = .slice A l.length c ∧ l.length ≤ c ∧ c ≤ maxLen := by
  obtain ⟨A, c, cs, rfl, hr, hl, hc⟩ := h
  obtain ⟨h1, h2, _⟩ := hr.open_
  exact ⟨A, c, rfl, h1, h2⟩
/-- One element, ready to be loaded. -/
theorem RowL.at_ {α : Type} {E : Elem α} {lo : Nat} {w : World} {A : Option Addr} {c : Nat} {l : List α} (h : RowL E lo w (.slice A l.length c) l) {k : Nat} (hk : k < l.length) :
    ∃ (b o : Nat) (ys : List Value), A = some ⟨b, o, none⟩ ∧ b < w.heap.size ∧ ys.length = E.sz ∧ E.P lo w ys l[k] ∧ ∀ j v, ys[j]? = some v → w.cell? ⟨b, o + k * E.sz + j, none⟩ = some v := by
  obtain ⟨A', c', cs, hv, hr, hl, hc⟩ := h
  injection hv with e1 e2 e3
  subst e1; subst e3
  obtain ⟨h1, h2, h3⟩ := hr.open_
  obtain ⟨b, o, hA, hb, hcell⟩ := h3 (by omega)
  have hp := hc k hk
  have hle : (k + 1) * E.sz ≤ l.length * E.sz := Nat.mul_le_mul_right _ hk
  rw [Nat.succ_mul] at hle
  refine ⟨b, o, _, hA, hb, E.len hp, hp, fun j v hv => ?_⟩
  have hj : j < E.sz := by
    rcases Nat.lt_or_ge j E.sz with h | h
    · exact h
    · rw [List.getElem?_eq_none (by rw [E.len hp]; exact h)] at hv; cases hv
  rw [List.getElem?_take_of_lt hj, List.getElem?_drop] at hv
  rw [Nat.add_assoc, hcell _ (by omega)]
  exact hv
/-- The first k elements of a row of one's own are filled. -/
def FillL {α : Type} (E : Elem α) (lo : Nat) (w : World) (l : List α) (cs : List Value) (k : Nat) : Prop := cs.length = l.length * E.sz ∧ ∀ (j : Nat) (h : j < l.length), j < k → E.P lo w ((cs.drop (j * E.sz)).take E.sz) l[j]
theorem FillL.keep {α : Type} {E : Elem α} {lo : Nat} {w w' : World} {l : List α} {cs : List Value} {k : Nat} (h : FillL E lo w l cs k) (hu : Up lo w w') : FillL E lo w' l cs k := ⟨h.1, fun j hj hk => E.keep (h.2 j hj hk) hu⟩
theorem splice_at {cs zs : List Value} {k sz n : Nat} (hl : cs.length = n * sz) (hk : k < n) (hz : zs.length = sz) : ((cs.take (k * sz) ++ zs ++ cs.drop (k * sz + sz)).drop (k * sz)).take sz = zs := by
  have h1 : k * sz + sz ≤ n * sz := by rw [← Nat.succ_mul]; exact Nat.mul_le_mul_right _ hk
  rw [List.append_assoc, List.drop_append_of_le_length (by rw [List.length_take]; omega)]
  rw [List.drop_eq_nil_of_le (by rw [List.length_take]; omega), List.nil_append, List.take_append_of_le_length (by omega), ← hz, List.take_length]
theorem splice_other {cs zs : List Value} {j k sz n : Nat} (hl : cs.length = n * sz) (hk : k < n) (hj : j < n) (hjk : j ≠ k) (hz : zs.length = sz) : ((cs.take (k * sz) ++ zs ++ cs.drop (k * sz + sz)).drop (j * sz)).take sz = (cs.drop (j * sz)).take sz := by
  have h1 : k * sz + sz ≤ n * sz := by rw [← Nat.succ_mul]; exact Nat.mul_le_mul_right _ hk
  have h2 : j * sz + sz ≤ n * sz := by rw [← Nat.succ_mul]; exact Nat.mul_le_mul_right _ hj
  apply List.ext_getElem?
  intro i
  by_cases hi : i < sz
  · rw [List.getElem?_take_of_lt hi, List.getElem?_take_of_lt hi, List.getElem?_drop, List.getElem?_drop]
    rcases Nat.lt_or_gt_of_ne hjk with h | h
    · have : j * sz + sz ≤ k * sz := by rw [← Nat.succ_mul]; exact Nat.mul_le_mul_right _ h
      rw [List.append_assoc, List.getElem?_append_left (by rw [List.length_take]; omega), List.getElem?_take_of_lt (by omega)]
    · have : k * sz + sz ≤ j * sz := by rw [← Nat.succ_mul]; exact Nat.mul_le_mul_right _ h
      rw [List.getElem?_append_right (by rw [List.length_append, List.length_take]; omega), List.getElem?_drop, List.length_append, List.length_take]
      congr 1; omega
  · rw [List.getElem?_eq_none (by rw [List.length_take]; omega), List.getElem?_eq_none (by rw [List.length_take]; omega)]
theorem FillL.succ {α : Type} {E : Elem α} {lo : Nat} {w : World} {l : List α} {cs zs : List Value} {k : Nat} (h : FillL E lo w l cs k) (hk : k < l.length) (hz : E.P lo w zs l[k]) : FillL E lo w l (cs.take (k * E.sz) ++ zs ++ cs.drop (k * E.sz + E.sz)) (k + 1) := by
  have hzl := E.len hz
  have h1 : k * E.sz + E.sz ≤ l.length * E.sz := by rw [← Nat.succ_mul]; exact Nat.mul_le_mul_right _ hk
  have hl := h.1
  refine ⟨by simp only [List.length_append, List.length_take, List.length_drop]; omega, fun j hj hjk => ?_⟩
  by_cases e : j = k
  · subst e; rw [splice_at hl hk hzl]; exact hz
  · rw [splice_other hl hk hj e hzl]; exact h.2 j hj (by omega)
/-- A wide value is stored into a row of one's own. -/
theorem store_big {P : Program} {w : World} {g : Nat} {t T : TypeId} {cs zs : List Value} {k : Nat} (ho : Own w g t cs) (hi : (P.info? T).map (·.size) = some zs.length) (hk : k + zs.length ≤ cs.length) (h1 : zs.all (·.oneCell') = true) :
    ∃ w2, (Instr.storeAt T (.pointer (some ⟨g, k, none⟩)) (.agg ⟨zs⟩)).run P w = .ok () w2 ∧ Own w2 g t (cs.take k ++ zs ++ cs.drop (k + zs.length)) ∧ (∀ b, b ≠ g → w2.heap[b]? = w.heap[b]?) ∧ w2.heap.size = w.heap.size ∧ w2.os = w.os ∧ w2.tape = w.tape ∧ w2.output = w.output := by
  have key : ∀ (vs : List Value) (i : Nat) (w : World) (cs : List Value), Own w g t cs → k + i + vs.length ≤ cs.length → (vs.all (·.oneCell') = true) →
      ∃ w2, (storeCells ⟨g, k, none⟩ vs i).run P w = .ok () w2 ∧ Own w2 g t (cs.take (k + i) ++ vs ++ cs.drop (k + i + vs.length)) ∧ (∀ b, b ≠ g → w2.heap[b]? = w.heap[b]?) ∧ w2.heap.size = w.heap.size ∧ w2.os = w.os ∧ w2.tape = w.tape ∧ w2.output = w.output := by
    intro vs
    induction vs with
    | nil => intro i w cs ho _ _; exact ⟨w, by simp [storeCells], by simpa using ho, fun _ _ => rfl, rfl, rfl, rfl, rfl⟩
    | cons v vs ih =>
      intro i w cs ho hl h1
      simp only [List.length_cons] at hl
      simp only [List.all_cons, Bool.and_eq_true] at h1
      have hadd : (⟨g, k, none⟩ : Addr).add i = ⟨g, k + i, none⟩ := by unfold Addr.add; split <;> simp_all
      have hst : (store ⟨g, k + i, none⟩ v).run P w = .ok () (w.setCell ⟨g, k + i, none⟩ v) := by
        rw [run_store P w _ _ _ h1.1]
        rw [ho.cell, ho.frozen, List.getElem?_eq_getElem (by omega)]
        rfl
      obtain ⟨w2, hr, ho2, hb, hs, e1, e2, e3⟩ := ih (i + 1) (w.setCell ⟨g, k + i, none⟩ v) (cs.set (k + i) v) (ho.set_ _ _) (by rw [List.length_set]; omega) h1.2
      refine ⟨w2, ?_, ?_, fun b hbg => (hb b hbg).trans (Below.heap_setCell _ _ _ _ hbg), by rw [hs]; simp [World.setCell], by rw [e1]; rfl, by rw [e2]; rfl, by rw [e3]; rfl⟩
      · simp only [storeCells, Sem.run_bind, hadd, hst, Result.andThen_ok]
        exact hr
      · have e : (cs.set (k + i) v).take (k + (i + 1)) ++ vs ++ (cs.set (k + i) v).drop (k + (i + 1) + vs.length) = cs.take (k + i) ++ (v :: vs) ++ cs.drop (k + i + (v :: vs).length) := by
          have a1 : (cs.set (k + i) v).take (k + (i + 1)) = cs.take (k + i) ++ [v] := by
            rw [show k + (i + 1) = (k + i) + 1 by omega, List.take_succ_eq_append_getElem (by rw [List.length_set]; omega)]
            rw [List.take_set, List.set_eq_of_length_le (by rw [List.length_take]; omega), List.getElem_set_self]
          have a2 : (cs.set (k + i) v).drop (k + (i + 1) + vs.length) = cs.drop (k + i + (v :: vs).length) := by
            rw [List.drop_set_of_lt (by omega)]
            congr 1; simp only [List.length_cons]; omega
          rw [a1, a2]; simp
        rw [← e]; exact ho2
  obtain ⟨w2, hr, ho2, hb⟩ := key zs 0 w cs ho (by omega) h1
  simp only [Nat.add_zero] at ho2
  refine ⟨w2, ?_, ho2, hb⟩
  cases hq : P.info? T with
  | none => simp [hq] at hi
  | some i =>
    have hs : i.size = zs.length := by simpa [hq] using hi
    simp [Instr.storeAt, Instr.sureAddr, storeVar, sizeOf, typeInfo, hq, hs, Value.cells, hr]
end Go.Proofs.YtnlbojckobgjpaaDoor
