/- Programs in memory: the cells of nodes and assignments; the counts of uses. -/
import Derived.Test.YtnlbojckobgjpaaGreatDoorMgB
import Derived.Test.YtnlbojckobgjpaaGreatDoorNewRows
set_option linter.unusedVariables false
set_option linter.unusedSimpArgs false
namespace Go.Proofs.YtnlbojckobgjpaaGreatDoor
open Go.RowKit
/-- The slice .slice A l.length c reads the nodes l. -/
def NodesIn (w : World) (A : Option Addr) (c : Nat) (l : List ENode) : Prop := l.length ≤ c ∧ c ≤ maxLen ∧ ∀ (i : Nat) (hi : i < l.length), ∃ b o A' c', A = some ⟨b, o, none⟩ ∧ b < w.heap.size ∧ l[i].2.1.length ≤ maxLen ∧ RS w 1 A' l[i].2.2.2.length c' (ints l[i].2.2.2) ∧
  w.cell? ⟨b, o + i * 4, none⟩ = some (.int .i64 l[i].1) ∧ w.cell? ⟨b, o + i * 4 + 1, none⟩ = some (str l[i].2.1) ∧ w.cell? ⟨b, o + i * 4 + 2, none⟩ = some (.int .i64 l[i].2.2.1) ∧ w.cell? ⟨b, o + i * 4 + 3, none⟩ = some (.slice A' l[i].2.2.2.length c')
def AssignsIn (w : World) (A : Option Addr) (c : Nat) (l : List EAssign) : Prop := l.length ≤ c ∧ c ≤ maxLen ∧ ∀ (i : Nat) (hi : i < l.length), ∃ b o, A = some ⟨b, o, none⟩ ∧ b < w.heap.size ∧ l[i].1.length ≤ maxLen ∧
  w.cell? ⟨b, o + i * 2, none⟩ = some (str l[i].1) ∧ w.cell? ⟨b, o + i * 2 + 1, none⟩ = some (.int .i64 l[i].2)
theorem NodesIn.step {w w' : World} {A : Option Addr} {c : Nat} {l : List ENode} (hb : Below w.heap.size w w') (h : NodesIn w A c l) : NodesIn w' A c l := by
  refine ⟨h.1, h.2.1, fun i hi => ?_⟩
  obtain ⟨b, o, A', c', h1, h2, h3, h4, h5, h6, h7, h8⟩ := h.2.2 i hi
  have hz := hb.size
  exact ⟨b, o, A', c', h1, by omega, h3, RS.step hb h4, (hb.cell (p := ⟨b, _, none⟩) h2).trans h5, (hb.cell (p := ⟨b, _, none⟩) h2).trans h6, (hb.cell (p := ⟨b, _, none⟩) h2).trans h7, (hb.cell (p := ⟨b, _, none⟩) h2).trans h8⟩
theorem AssignsIn.step {w w' : World} {A : Option Addr} {c : Nat} {l : List EAssign} (hb : Below w.heap.size w w') (h : AssignsIn w A c l) : AssignsIn w' A c l := by
  refine ⟨h.1, h.2.1, fun i hi => ?_⟩
  obtain ⟨b, o, h1, h2, h3, h4, h5⟩ := h.2.2 i hi
  have hz := hb.size
  exact ⟨b, o, h1, by omega, h3, (hb.cell (p := ⟨b, _, none⟩) h2).trans h4, (hb.cell (p := ⟨b, _, none⟩) h2).trans h5⟩
theorem NodesAt.in_ {w : World} {v : Value} {l : List ENode} (h : NodesAt w v l) : ∃ A c, v = .slice A l.length c ∧ NodesIn w A c l := by
  obtain ⟨A, c, rfl, h1, h2, h3⟩ := RowOf.open_ h
  refine ⟨A, c, rfl, h1, h2, fun i hi => ?_⟩
  obtain ⟨b, o, cs, hA, hb, ⟨u, rfl, hs, A', c', rfl, hr⟩, hl, hc⟩ := h3 i hi
  refine ⟨b, o, A', c', hA, hb, hs, hr, ?_, ?_, ?_, ?_⟩
  · have := hc 0 (by omega); simpa using this
  · have := hc 1 (by omega); rw [← Nat.add_assoc] at this; simpa using this
  · have := hc 2 (by omega); rw [← Nat.add_assoc] at this; simpa using this
  · have := hc 3 (by omega); rw [← Nat.add_assoc] at this; simpa using this
theorem AssignsAt.in_ {w : World} {v : Value} {l : List EAssign} (h : AssignsAt w v l) : ∃ A c, v = .slice A l.length c ∧ AssignsIn w A c l := by
  obtain ⟨A, c, rfl, h1, h2, h3⟩ := RowOf.open_ h
  refine ⟨A, c, rfl, h1, h2, fun i hi => ?_⟩
  obtain ⟨b, o, cs, hA, hb, ⟨rfl, hs⟩, hl, hc⟩ := h3 i hi
  refine ⟨b, o, hA, hb, hs, ?_, ?_⟩
  · have := hc 0 (by omega); simpa using this
  · have := hc 1 (by omega); rw [← Nat.add_assoc] at this; simpa using this
/-- A program value. -/
abbrev vProg (A : Option Addr) (n c : Nat) (A2 : Option Addr) (n2 c2 : Nat) : Value := .agg #[.slice A n c, .slice A2 n2 c2]
def ProgIn (w : World) (A : Option Addr) (c : Nat) (A2 : Option Addr) (c2 : Nat) (p : EProg) : Prop := NodesIn w A c p.1 ∧ AssignsIn w A2 c2 p.2
theorem ProgIn.step {w w' : World} {A A2 : Option Addr} {c c2 : Nat} {p : EProg} (hb : Below w.heap.size w w') (h : ProgIn w A c A2 c2 p) : ProgIn w' A c A2 c2 p := ⟨h.1.step hb, h.2.step hb⟩
/-! The counts of uses. -/
def cntL (n : Nat) (us : List Nat) : List Int := (List.range n).map fun x => (us.count x : Int)
theorem cntL_len (n : Nat) (us : List Nat) : (cntL n us).length = n := by simp [cntL]
theorem cntL_at {n : Nat} {us : List Nat} {x : Nat} (h : x < n) : (ints (cntL n us))[x]? = some (.int .i64 (us.count x : Int)) := by simp [cntL, h]
theorem cntL_snoc {n : Nat} {us : List Nat} {a : Nat} (h : a < n) : (ints (cntL n us)).set a (.int .i64 ((us.count a : Int) + 1)) = ints (cntL n (us ++ [a])) := by
  apply List.ext_getElem?
  intro j
  by_cases hj : j < n
  · by_cases e : a = j
    · subst e
      rw [List.getElem?_set_self (by simp [cntL]; exact h), cntL_at h, List.count_append]
      simp
    · rw [List.getElem?_set_ne e, cntL_at hj, cntL_at hj, List.count_append, List.count_cons]
      have : ¬ a == j := by simpa using e
      simp [this]
  · rw [List.getElem?_eq_none (by simp [cntL]; omega), List.getElem?_eq_none (by simp [cntL]; omega)]
theorem cntL_nil (n : Nat) : cntL n [] = List.replicate n 0 := by
  apply List.ext_getElem
  · simp [cntL]
  · intro i h1 h2; simp [cntL]
def nodeUses (p : EProg) (k : Nat) : List Nat := ((gOfP p).take k).flatten
theorem nodeUses_succ {p : EProg} {k : Nat} (h : k < p.1.length) : nodeUses p (k + 1) = nodeUses p k ++ p.1[k].2.2.2.map Int.toNat := by
  unfold nodeUses
  rw [List.take_succ_eq_append_getElem (by rw [gOfP_len]; exact h), List.flatten_append]
  simp [gOfP]
theorem nodeUses_all (p : EProg) : nodeUses p p.1.length = (gOfP p).flatten := by
  unfold nodeUses
  rw [← gOfP_len (p := p), List.take_length]
def rootUses (p : EProg) (k : Nat) : List Nat := (gOfP p).flatten ++ (rOfP p).take k
theorem rootUses_succ {p : EProg} {k : Nat} (h : k < p.2.length) : rootUses p (k + 1) = rootUses p k ++ [p.2[k].2.toNat] := by
  unfold rootUses
  rw [List.take_succ_eq_append_getElem (by simp [rOfP]; exact h), ← List.append_assoc]
  simp [rOfP]
theorem rootUses_all (p : EProg) : rootUses p p.2.length = usesP p := by
  unfold rootUses usesP
  rw [List.take_of_length_le (by simp [rOfP])]
theorem okShape_le {op : Int} {n : Nat} (h : okShape op n = true) : n ≤ 3 := by
  unfold okShape at h
  split at h
  · have := of_decide_eq_true h; omega
  · split at h
    · have := of_decide_eq_true h; omega
    · split at h
      · have := of_decide_eq_true h; omega
      · split at h
        · exact of_decide_eq_true h
        · cases h
theorem okNode_args {x : ENode} {k : Nat} (h : okNode k x = true) : x.2.2.2.length ≤ 3 ∧ ∀ a ∈ x.2.2.2, 0 ≤ a ∧ a < k := by
  unfold okNode okFields argsOk at h
  simp only [Bool.and_eq_true, List.all_eq_true] at h
  exact ⟨okShape_le h.1.2, fun a ha => by have := inB_true (h.2 a ha); omega⟩
theorem nodesTo_one {p : EProg} {k m : Nat} (h : nodesTo p m = true) (hk : k < m) (hm : m ≤ p.1.length) : okNode k (p.1[k]'(by omega)) = true := by
  unfold nodesTo at h
  rw [List.all_eq_true] at h
  have := h (p.1[k]'(by omega), k) (List.mk_mem_zipIdx_iff_getElem?.2 (by rw [List.getElem?_take_of_lt hk]; exact List.getElem?_eq_getElem _))
  exact this
theorem nodesTo_mono {p : EProg} {k m : Nat} (hkm : k ≤ m) (hm : m ≤ p.1.length) (h : nodesTo p m = true) : nodesTo p k = true := by
  induction m with
  | zero => obtain rfl : k = 0 := by omega
            exact h
  | succ m ih =>
    by_cases e : k = m + 1
    · subst e; exact h
    · rw [nodesTo_succ (by omega)] at h
      simp only [Bool.and_eq_true] at h
      exact ih (by omega) (by omega) h.1
theorem nodeUses_len {p : EProg} : ∀ k, k ≤ p.1.length → nodesTo p k = true → (nodeUses p k).length ≤ 3 * k
  | 0, _, _ => by simp [nodeUses]
  | k + 1, hk, h => by
    rw [nodeUses_succ (by omega), List.length_append, List.length_map]
    have h1 := (okNode_args (nodesTo_one h (Nat.lt_succ_self k) hk)).1
    have h2 := nodeUses_len (p := p) k (by omega) (by rw [nodesTo_succ (by omega)] at h; simp only [Bool.and_eq_true] at h; exact h.1)
    omega
theorem rootUses_len {p : EProg} (h : nodesTo p p.1.length = true) (k : Nat) : (rootUses p k).length ≤ 3 * p.1.length + k := by
  unfold rootUses
  rw [List.length_append, ← nodeUses_all]
  have := nodeUses_len p.1.length (Nat.le_refl _) h
  have : ((rOfP p).take k).length ≤ k := by simp; omega
  omega
theorem count_le {l : List Nat} (a : Nat) : l.count a ≤ l.length := List.count_le_length
/-- The counts up to k are all 1. -/
def onesTo (us : List Nat) (k : Nat) : Bool := (List.range k).all fun x => us.count x == 1
theorem onesTo_succ (us : List Nat) (k : Nat) : onesTo us (k + 1) = (onesTo us k && us.count k == 1) := by
  unfold onesTo; rw [List.range_succ, List.all_append]; simp
theorem onesTo_no {us : List Nat} {k n : Nat} (h : k < n) (hc : us.count k ≠ 1) : onesTo us n = false := by
  unfold onesTo; rw [List.all_eq_false]
  exact ⟨k, List.mem_range.2 h, by simpa using hc⟩
theorem validP_def (p : EProg) : validP p = (decide (p.1.length ≤ 60) && nodesTo p p.1.length && assignsTo p p.2.length && onesTo (usesP p) p.1.length) := rfl
theorem nodesTo_no {p : EProg} {k : Nat} (hk : k < p.1.length) (h : okNode k p.1[k] = false) : nodesTo p p.1.length = false := by
  cases e : nodesTo p p.1.length with
  | false => rfl
  | true => rw [nodesTo_at e hk] at h; cases h
theorem assignsTo_no {p : EProg} {k : Nat} (hk : k < p.2.length) (h : okAssign p.1.length p.2[k] = false) : assignsTo p p.2.length = false := by
  cases e : assignsTo p p.2.length with
  | false => rfl
  | true => rw [assignsTo_at e hk] at h; cases h
end Go.Proofs.YtnlbojckobgjpaaGreatDoor
