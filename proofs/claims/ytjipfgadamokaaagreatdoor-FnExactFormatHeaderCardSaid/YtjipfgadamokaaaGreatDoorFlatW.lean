/- The bytes of a string as a slice of the call's own; newlines turned to spaces: l20Flat of the reference, strings.ReplaceAll of the program. -/
import Derived.Test.YtjipfgadamokaaaGreatDoorMgE
import Derived.Test.YtjipfgadamokaaaGreatDoorMgC
import Derived.Laws.IdiomStrings
import Derived.Lib.Replace
set_option linter.unusedVariables false
set_option linter.unusedSimpArgs false
namespace Go.Proofs.YtjipfgadamokaaaGreatDoor
open Go.RowKit Go.Lib
set_option maxRecDepth 100000
/-- Block g: cells that bear a mark behind their end (bytes that came of a string). -/
def OwnB (w : World) (g : Nat) (t : TypeId) (cs : List Value) : Prop := ∃ m, cs.length ≤ m ∧ w.heap[g]? = some (.cells ⟨cs⟩ t (m, m + 1))
theorem OwnB.lt {w : World} {g : Nat} {t : TypeId} {cs : List Value} (h : OwnB w g t cs) : g < w.heap.size := by
  obtain ⟨m, _, h⟩ := h
  exact (Array.getElem?_eq_some_iff.1 h).1
theorem OwnB.cell {w : World} {g : Nat} {t : TypeId} {cs : List Value} (h : OwnB w g t cs) (i : Nat) : w.cell? ⟨g, i, none⟩ = cs[i]? := by
  obtain ⟨m, _, h⟩ := h
  simp [World.cell?, h]
theorem OwnB.frozen {w : World} {g : Nat} {t : TypeId} {cs : List Value} (h : OwnB w g t cs) {i : Nat} (hi : i < cs.length) : w.frozen? ⟨g, i, none⟩ = false := by
  obtain ⟨m, hm, h⟩ := h
  simp [World.frozen?, h]; omega
theorem OwnB.set_ {w : World} {g : Nat} {t : TypeId} {cs : List Value} (h : OwnB w g t cs) (i : Nat) (u : Value) : OwnB (w.setCell ⟨g, i, none⟩ u) g t (cs.set i u) := by
  obtain ⟨m, hm, h⟩ := h
  refine ⟨m, by simpa using hm, ?_⟩
  simp [World.setCell, Array.getElem?_modify, h]
theorem OwnB.step {w w' : World} {g : Nat} {t : TypeId} {cs : List Value} (hb : Below w.heap.size w w') (h : OwnB w g t cs) : OwnB w' g t cs := by
  have hl := h.lt
  obtain ⟨m, hm, h⟩ := h
  exact ⟨m, hm, (hb.block g hl).trans h⟩
/-- The cells of bytes. -/
abbrev u8s (l : List UInt8) : List Value := l.map fun b => .int .u8 (b.toNat : Int)
theorem bytes_of {P : Program} (src dst e : TypeId) (l : List UInt8) (hs : P.underlying src = some .string) (hd : P.underlying dst = some (.slice e)) (he : P.underlying e = some (.int .u8)) (w : World) :
    ∃ (cap : Nat) (w1 : World) (pad : List Value), (convert src dst (.string ⟨l.toArray⟩)).run P w = .ok (.slice (some ⟨w.heap.size, 0, none⟩) l.length cap) w1 ∧ OwnB w1 w.heap.size e (u8s l ++ pad) ∧ Below w.heap.size w w1 ∧ w1.heap.size = w.heap.size + 1 ∧ l.length ≤ cap := by
  refine ⟨_, _, List.replicate (grownCap w l.length 0 e - l.length) (.int .u8 0), run_bytes_of_string w src dst e ⟨l.toArray⟩ hs hd he, ⟨(bytesRow ⟨l.toArray⟩ (grownCap w l.length 0 e)).size, ?_, ?_⟩, ?_, ?_, ?_⟩
  · unfold bytesRow; simp [ByteArray.size]
  · have : (w.drew.alloc (.cells (bytesRow ⟨l.toArray⟩ (grownCap w l.length 0 e)) e ((bytesRow ⟨l.toArray⟩ (grownCap w l.length 0 e)).size, (bytesRow ⟨l.toArray⟩ (grownCap w l.length 0 e)).size + 1))).heap[w.heap.size]? = some (.cells (bytesRow ⟨l.toArray⟩ (grownCap w l.length 0 e)) e ((bytesRow ⟨l.toArray⟩ (grownCap w l.length 0 e)).size, (bytesRow ⟨l.toArray⟩ (grownCap w l.length 0 e)).size + 1)) := heap_alloc_new w.drew _
    refine this.trans ?_
    have e1 : bytesRow ⟨l.toArray⟩ (grownCap w l.length 0 e) = ⟨u8s l ++ List.replicate (grownCap w l.length 0 e - l.length) (.int .u8 0)⟩ := by
      apply Array.ext'
      unfold bytesRow
      simp [ByteArray.size, u8s]
    rw [e1]
  · exact ((Below.refl _ _).drew).alloc (Nat.le_refl _) _
  · simp
  · show l.length ≤ grownCap w l.length 0 e
    unfold grownCap Question.cut
    simp
/-! ReplaceAll at one byte by another. -/
theorem index_one_eq (c : UInt8) (t : List UInt8) : index (c :: t) [c] = ((0 : Nat) : Int) := by rw [index]; simp [List.isPrefixOf]
theorem index_one_ne {b c : UInt8} (t : List UInt8) (h : b ≠ c) : index (b :: t) [c] = if index t [c] == -1 then -1 else index t [c] + 1 := by
  have hp : ([c] : List UInt8).isPrefixOf (b :: t) = false := by simp [List.isPrefixOf, Ne.symm h]
  rw [index, hp]; simp
theorem index_one_none {c : UInt8} : ∀ {s : List UInt8}, s.count c = 0 → index s [c] = -1
  | [], _ => by simp [index]
  | b :: t, h => by
    have hb : b ≠ c := fun e => by subst e; simp at h
    rw [List.count_cons_of_ne (by simpa using hb)] at h
    rw [index_one_ne t hb, index_one_none h]; simp
theorem replaceK_one (c d : UInt8) : ∀ s : List UInt8, replaceK [c] [d] (s.count c) s = s.map fun b => if b = c then d else b
  | [] => by simp [replaceK]
  | b :: t => by
    by_cases hb : b = c
    · subst hb
      rw [List.count_cons_self, replaceK_hit _ _ _ _ 0 (index_one_eq b t)]
      simp only [List.take_zero, List.nil_append, List.length_cons, List.length_nil, List.drop_succ_cons, List.drop_zero, List.map_cons, if_true, List.cons_append]
      rw [replaceK_one b d t]
    · have ih := replaceK_one c d t
      rw [List.count_cons_of_ne (by simpa using hb)]
      simp only [List.map_cons, if_neg hb]
      rw [← ih]
      rcases Nat.eq_zero_or_pos (t.count c) with h0 | h0
      · rw [h0]; simp [replaceK]
      · obtain ⟨k, hk⟩ : ∃ k, t.count c = k + 1 := ⟨t.count c - 1, by omega⟩
        obtain ⟨i, hi⟩ := index_of_count (s := t) (old := [c]) (by rw [count_one]; omega)
        rw [hk, replaceK_hit _ _ _ _ i hi, replaceK_hit _ _ _ _ (i + 1) (by
          rw [index_one_ne t hb, hi, if_neg (by simp <;> omega)]; first | rfl | omega)]
        simp
theorem replaceAll_one (c d : UInt8) (hcd : c ≠ d) (s : List UInt8) : replaceAll s [c] [d] = s.map fun b => if b = c then d else b := by
  unfold replaceAll replace
  rw [if_neg (by simpa using hcd)]
  have : replaceNum s [c] (-1) = s.count c := by unfold replaceNum; rw [if_pos (by omega), count_one]
  rw [this, replaceK_one]
theorem replaceAll_flat (s : List UInt8) : replaceAll s [10] [32] = flatT s := replaceAll_one 10 32 (by decide) s
def fl1 (b : UInt8) : UInt8 := if b = 10 then 32 else b
theorem flatT_at {l : List UInt8} {j : Nat} (h : j < l.length) : (flatT l)[j]'(by rw [flatT_len]; exact h) = fl1 l[j] := by simp [flatT, fl1]
set_option maxHeartbeats 8000000 in
theorem S_l20Flat (l : List UInt8) (w : World) (hl : l.length ≤ 1048576) :
    Calls Tryz.prog 41 #[str l] w fun e w' => e = .returned (str (flatT l)) ∧ Below w.heap.size w w' := by
  obtain ⟨cap, w1, pad, hcv, ho, hb1, hz1, hcap⟩ := bytes_of (P := Tryz.prog) 9 48 5 l Tryz.underlying9 Tryz.underlying48 Tryz.underlying5 w
  have HO := Lib.hid ho
  have HB1 := Lib.hid hb1
  clear ho hb1
  go_enter Tryz.func41, Tryz.ntmps41
  go_wp2_with fail
  clear hcv
  go_loopw [4, 5, 10] (fun _ _ i wr => ∃ (k : Nat) (cs : List Value), k ≤ l.length ∧ i = .int .i64 k ∧ OwnB wr w.heap.size 5 cs ∧ l.length ≤ cs.length ∧ (∀ j (h : j < l.length), cs[j]? = some (.int .u8 ((if j < k then fl1 l[j] else l[j]).toNat : Int))) ∧ Below w.heap.size w wr) (fun _ _ i _ => l.length - (RowKit.intOf i).toNat)
  case atStart => exact ⟨0, _, Nat.zero_le _, rfl, HO.out, by simp, fun j h => by rw [List.getElem?_append_left (by simpa using h)]; simp [h], HB1.out⟩
  case round =>
    obtain ⟨k, cs, hk, rfl, ho, hcl, hcs, hb⟩ := hrel
    obtain ⟨wo, rfl⟩ : ∃ wo, wo = wr := ⟨_, rfl⟩
    have HB := Lib.hid hb
    have HC := Lib.hid ho
    have HCS := Lib.hid hcs
    clear hb ho hcs HO HB1
    by_cases hlt : k < l.length
    · have c1 : wo.cell? ⟨w.heap.size, k, none⟩ = some (.int .u8 (l[k].toNat : Int)) := by rw [HC.out.cell, HCS.out k hlt, if_neg (by omega)]
      have f1 : wo.frozen? ⟨w.heap.size, k, none⟩ = false := HC.out.frozen (by omega)
      have i1 : (k : Int) < l.length := by omega
      have i2 : (0 : Int) ≤ k := by omega
      by_cases hx : l[k] = 10
      · have HK : Hid (∀ j (h : j < l.length), (cs.set k (.int .u8 32))[j]? = some (.int .u8 ((if j < k + 1 then fl1 l[j] else l[j]).toNat : Int))) := Lib.hid (fun j h => by
          by_cases e : k = j
          · subst e
            rw [List.getElem?_set_self (by omega), if_pos (by omega)]
            unfold fl1; rw [if_pos hx]; rfl
          · rw [List.getElem?_set_ne e, HCS.out j h]
            by_cases e2 : j < k
            · rw [if_pos e2, if_pos (by omega)]
            · rw [if_neg e2, if_neg (by omega)])
        rw [hx] at c1
        have c2 : wo.cell? ⟨w.heap.size, k, none⟩ = some (.int .u8 10) := c1
        clear c1 hx
        go_wp2_with fail
        go_roundw
        case rel => exact ⟨k + 1, _, by omega, by go_num, HC.out.set_ _ _, by simpa using hcl, HK.out, HB.out.setCell (Nat.le_refl _) _⟩
        case measure => simp [RowKit.intOf] <;> omega
      · have HK : Hid (∀ j (h : j < l.length), cs[j]? = some (.int .u8 ((if j < k + 1 then fl1 l[j] else l[j]).toNat : Int))) := Lib.hid (fun j h => by
          rw [HCS.out j h]
          by_cases e2 : j < k
          · rw [if_pos e2, if_pos (by omega)]
          · rw [if_neg e2]
            by_cases e : k = j
            · subst e; rw [if_pos (by omega)]; unfold fl1; rw [if_neg hx]
            · rw [if_neg (by omega)])
        have hx2 : (((l[k].toNat : Int)) == 10) = false := by
          simp only [beq_eq_false_iff_ne]
          intro e
          exact hx (UInt8.toNat_inj.1 (by show l[k].toNat = 10; omega))
        generalize l[k].toNat = xn at *
        clear hx
        go_wp2_with fail
        go_roundw
        case rel => exact ⟨k + 1, _, by omega, by go_num, HC.out, hcl, HK.out, HB.out⟩
        case measure => simp [RowKit.intOf] <;> omega
    · obtain rfl : k = l.length := by omega
      have hcb : (convert 48 9 (.slice (some ⟨w.heap.size, 0, none⟩) l.length cap)).run Tryz.prog wo = .ok (str (flatT l)) wo := by
        have := run_convert_bytes_back (P := Tryz.prog) wo 48 9 5 ⟨w.heap.size, 0, none⟩ cap (flatT l) Tryz.underlying48 Tryz.underlying5 Tryz.underlying9 (fun j hj => by
          have hj' : j < l.length := by rw [flatT_len] at hj; exact hj
          show wo.cell? ((⟨w.heap.size, 0, none⟩ : Addr).add j) = _
          rw [show ((⟨w.heap.size, 0, none⟩ : Addr).add j) = ⟨w.heap.size, j, none⟩ by unfold Addr.add; split <;> simp_all]
          rw [HC.out.cell, HCS.out j hj', if_pos hj', flatT_at hj'])
        rw [flatT_len] at this
        exact this
      go_wp2_with fail
      go_ret
      exact ⟨rfl, HB.out⟩
/-- The greatest length of bytealg, laid or not. -/
def MLen (w : World) : Prop := ∃ m, w.cell? ⟨0, 0, none⟩ = some (.int .i64 m)
theorem MLen.step {w w' : World} (h : MLen w) (hb : Below w.heap.size w w') : MLen w' := by
  obtain ⟨m, h4⟩ := h
  have hlt : 0 < w.heap.size := by
    rcases Nat.lt_or_ge 0 w.heap.size with h' | h'
    · exact h'
    · simp [World.cell?, Array.getElem?_eq_none h'] at h4
  exact ⟨m, (hb.cell (p := ⟨0, 0, none⟩) hlt).trans h4⟩
theorem I_ReplaceAll (l : List UInt8) (w : World) (hl : l.length ≤ 1048576) (hm : MLen w) :
    Calls Tryz.prog 57 #[str l, .string ⟨#[10]⟩, .string ⟨#[32]⟩] w fun e w' => e = .returned (str (flatT l)) ∧ Below w.heap.size w w' := by
  obtain ⟨m, hm⟩ := hm
  refine (Tryz.strings_ReplaceAll ⟨l.toArray⟩ ⟨#[10]⟩ ⟨#[32]⟩ m w (by show l.length < _; omega) hm (by decide) ?_).mono ?_
  · have := countB_le ⟨#[10]⟩ (by decide) l.length ⟨l.toArray⟩ (Nat.le_refl _)
    have e1 : (⟨l.toArray⟩ : ByteArray).size = l.length := rfl
    have e2 : (⟨#[32]⟩ : ByteArray).size = 1 := rfl
    rw [e1, e2]
    rw [e1] at this
    omega
  · rintro e w' ⟨rfl, hb⟩
    exact ⟨by show Ending.returned (Value.string ⟨(replaceAll l [10] [32]).toArray⟩) = _; rw [replaceAll_flat], hb⟩
end Go.Proofs.YtjipfgadamokaaaGreatDoor
