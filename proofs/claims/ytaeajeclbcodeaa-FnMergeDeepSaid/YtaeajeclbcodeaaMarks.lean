/- MADE BY PROGRAM (genmarks.py). The laws' marks in rows of bools and of flat structs of ints. -/
import Derived.Test.YtaeajeclbcodeaaMark
import Derived.Test.YtaeajeclbcodeaaPairs
namespace Go.Proofs.Ytaeajeclbcodeaa
open Go.RowKit
set_option linter.unusedVariables false
/-- The marks of a row of bools. -/
def thirds (k : Int) (n : Nat) : List Bool := (List.range n).map (fun (i : Nat) => decide ((k + i) % 3 = 0))
theorem thirds_len (k : Int) (n : Nat) : (thirds k n).length = n := by simp [thirds]
theorem thirds_at {k : Int} {n i : Nat} (h : i < n) : (bools (thirds k n))[i]? = some (.bool (decide ((k + i) % 3 = 0))) := by simp [thirds, h]
/-- Marked up to cell i, cells xs at last. -/
def MarkedC (xs cs : List Value) (i : Nat) : Prop := cs.length = xs.length ∧ ∀ j, j < i → cs[j]? = xs[j]?
theorem MarkedC.succ {xs cs : List Value} {i : Nat} {v : Value} (h : MarkedC xs cs i) (hv : xs[i]? = some v) : MarkedC xs (cs.set i v) (i + 1) := by
  have hi : i < xs.length := by
    rcases Nat.lt_or_ge i xs.length with h | h
    · exact h
    · rw [List.getElem?_eq_none h] at hv; cases hv
  refine ⟨by rw [List.length_set]; exact h.1, fun j hj => ?_⟩
  by_cases e : i = j
  · subst e; rw [List.getElem?_set_self (by rw [h.1]; exact hi), hv]
  · rw [List.getElem?_set_ne e]; exact h.2 j (by omega)
theorem MarkedC.all {xs cs : List Value} {i : Nat} (h : MarkedC xs cs i) (hi : xs.length ≤ i) : cs = xs := by
  apply List.ext_getElem?
  intro j
  by_cases hj : j < xs.length
  · exact h.2 j (by omega)
  · rw [List.getElem?_eq_none (by rw [h.1]; omega), List.getElem?_eq_none (by omega)]
theorem upFrom_cell {k : Int} {N i : Nat} (h : i < N) : (ints (upFrom k N))[i]? = some (.int .i64 (k + i)) := upFrom_at h
theorem L_markDeepStepS0 {c : Nat} {k : Int} (w : World) : Calls Try.prog 16 #[.slice none 0 c, .int .i64 k] w fun e w' => e = .returned (.int .i64 k) ∧ w = w' := by
  go_enter Try.func16, Try.ntmps16
  go_wp2
  go_loopw [1, 5] (fun v i wr => v = .int .i64 k ∧ i = .int .i64 0 ∧ w = wr) (fun _ _ _ => 0)
  case atStart => exact ⟨rfl, rfl, rfl⟩
  case round =>
    obtain ⟨rfl, rfl, rfl⟩ := hrel
    go_wp2
    go_ret
    exact ⟨rfl, rfl⟩
theorem L_heldDeepStepS0 {c : Nat} {k : Int} (w : World) : Calls Try.prog 17 #[.slice none 0 c, .int .i64 k] w fun e w' => e = .returned (.int .i64 k) ∧ w = w' := by
  go_enter Try.func17, Try.ntmps17
  go_wp2
  go_loopw [1, 5] (fun v i wr => v = .int .i64 k ∧ i = .int .i64 0 ∧ w = wr) (fun _ _ _ => 0)
  case atStart => exact ⟨rfl, rfl, rfl⟩
  case round =>
    obtain ⟨rfl, rfl, rfl⟩ := hrel
    go_wp2
    go_ret
    exact ⟨rfl, rfl⟩
set_option maxHeartbeats 1000000 in
theorem L_markDeepStepS {g n c : Nat} {cs ds : List Value} {k : Int} (w : World) (h : Own w g 61 (cs ++ ds)) (hl : cs.length = n * 2) (hc : n ≤ c) (hc' : c ≤ maxLen) (hn : n ≤ 1048576) (h0 : 0 ≤ k) (h1 : k ≤ 1099511627776) :
    Calls Try.prog 16 #[.slice (some ⟨g, 0, none⟩) n c, .int .i64 k] w fun e w' => e = .returned (.int .i64 (k + 2 * (n : Int))) ∧ Own w' g 61 (ints (upFrom k (n * 2)) ++ ds) ∧ Only w.heap.size [g] w w' := by
  unfold maxLen at hc'
  have HO0 := Lib.hid h
  clear h
  go_enter Try.func16, Try.ntmps16
  go_wp2
  go_loopw [1, 5] (fun v i wr => ∃ (m : Nat) (es : List Value), m ≤ n ∧ v = .int .i64 (k + 2 * (m : Int)) ∧ i = .int .i64 m ∧ MarkedC (ints (upFrom k (n * 2))) es (m * 2) ∧ Own wr g 61 (es ++ ds) ∧ Only w.heap.size [g] w wr) (fun _ i _ => n - (intOf i).toNat)
  case atStart => exact ⟨0, cs, Nat.zero_le _, (by simp), rfl, ⟨by rw [hl]; simp [upFrom]; try omega, fun j hj => absurd hj (by omega)⟩, HO0.out, Only.refl _ _ _⟩
  case round =>
    obtain ⟨m, es, hm, rfl, rfl, hf, ho, hb⟩ := hrel
    have HB := Lib.hid hb
    have HO := Lib.hid ho
    have HF := Lib.hid hf
    clear hb ho hf
    by_cases hlt : m < n
    · have hel : es.length = n * 2 := by rw [HF.out.1]; simp [upFrom]; try omega
      have HL := Lib.hid hel
      clear hel
      obtain ⟨u0, d0⟩ : ∃ u, wr.cell? ⟨g, m * 2, none⟩ = some u := ⟨es[m * 2]'(by rw [HL.out]; omega), by rw [HO.out.cell, List.getElem?_append_left (by rw [HL.out]; omega), List.getElem?_eq_getElem]⟩
      have f0 : wr.frozen? ⟨g, m * 2, none⟩ = false := HO.out.frozen _
      obtain ⟨u1, d1⟩ : ∃ u, wr.cell? ⟨g, m * 2 + 1, none⟩ = some u := ⟨es[m * 2 + 1]'(by rw [HL.out]; omega), by rw [HO.out.cell, List.getElem?_append_left (by rw [HL.out]; omega), List.getElem?_eq_getElem]⟩
      have f1 : wr.frozen? ⟨g, m * 2 + 1, none⟩ = false := HO.out.frozen _
      have hp0 : IntKind.i64.wrap (k + 2 * (m : Int) + 1) = k + 2 * (m : Int) + 1 := IntWalk.i64_in _ (by omega)
      have hp1 : IntKind.i64.wrap (k + 2 * (m : Int) + 1 + 1) = k + 2 * (m : Int) + 1 + 1 := IntWalk.i64_in _ (by omega)
      go_wp2
      go_roundw
      case rel => exact ⟨m + 1, _, by omega, by go_num, by go_num, by have hh := ((HF.out).succ (v := .int .i64 (k + 2 * (m : Int))) (by rw [upFrom_cell (k := k) (N := n * 2) (i := m * 2) (by omega)]; exact congrArg (fun x => some (Value.int .i64 x)) (by omega))).succ (v := .int .i64 (k + 2 * (m : Int) + 1)) (by rw [upFrom_cell (k := k) (N := n * 2) (i := m * 2 + 1) (by omega)]; exact congrArg (fun x => some (Value.int .i64 x)) (by omega)); rw [Nat.succ_mul]; exact hh, ((HO.out).set_left _ (by rw [HL.out]; omega) _).set_left _ (by simp [List.length_set]; rw [HL.out]; omega) _, ((HB.out).setCell (by simp) _).setCell (by simp) _⟩
      case measure => simp [intOf]; omega
    · obtain rfl : m = n := by omega
      go_wp2
      go_ret
      exact ⟨rfl, HF.out.all (by simp [upFrom]; try omega) ▸ HO.out, HB.out⟩
set_option maxHeartbeats 1000000 in
theorem L_heldDeepStepS {g n c : Nat} {ds : List Value} {k : Int} (w : World) (h : Own w g 61 (ints (upFrom k (n * 2)) ++ ds)) (hc : n ≤ c) (hc' : c ≤ maxLen) (hn : n ≤ 1048576) (h0 : 0 ≤ k) (h1 : k ≤ 1099511627776) :
    Calls Try.prog 17 #[.slice (some ⟨g, 0, none⟩) n c, .int .i64 k] w fun e w' => e = .returned (.int .i64 (k + 2 * (n : Int))) ∧ w = w' := by
  unfold maxLen at hc'
  have HO := Lib.hid h
  clear h
  go_enter Try.func17, Try.ntmps17
  go_wp2
  go_loopw [1, 5] (fun v i wr => ∃ (m : Nat), m ≤ n ∧ v = .int .i64 (k + 2 * (m : Int)) ∧ i = .int .i64 m ∧ w = wr) (fun _ i _ => n - (intOf i).toNat)
  case atStart => exact ⟨0, Nat.zero_le _, (by simp), rfl, rfl⟩
  case round =>
    obtain ⟨m, hm, rfl, rfl, rfl⟩ := hrel
    by_cases hlt : m < n
    · have d0 : w.cell? ⟨g, m * 2, none⟩ = some (.int .i64 (k + 2 * (m : Int))) := by rw [HO.out.cell, List.getElem?_append_left (by simp [upFrom]; try omega), upFrom_cell (k := k) (N := n * 2) (i := m * 2) (by omega)]; exact congrArg (fun x => some (Value.int .i64 x)) (by omega)
      have d1 : w.cell? ⟨g, m * 2 + 1, none⟩ = some (.int .i64 (k + 2 * (m : Int) + 1)) := by rw [HO.out.cell, List.getElem?_append_left (by simp [upFrom]; try omega), upFrom_cell (k := k) (N := n * 2) (i := m * 2 + 1) (by omega)]; exact congrArg (fun x => some (Value.int .i64 x)) (by omega)
      have hp0 : IntKind.i64.wrap (k + 2 * (m : Int) + 1) = k + 2 * (m : Int) + 1 := IntWalk.i64_in _ (by omega)
      have hp1 : IntKind.i64.wrap (k + 2 * (m : Int) + 1 + 1) = k + 2 * (m : Int) + 1 + 1 := IntWalk.i64_in _ (by omega)
      go_wp2
      go_roundw
      case rel => exact ⟨m + 1, by omega, by go_num, by go_num, (by trivial)⟩
      case measure => simp [intOf]; omega
    · obtain rfl : m = n := by omega
      go_wp2
      go_ret
      exact ⟨rfl, rfl⟩
theorem L_markDeepStepSG {A : Option Addr} {n c : Nat} {cs : List Value} {k : Int} (w : World) (h : OwnS w 2 A n c 61 cs) (hn : n ≤ 1048576) (h0 : 0 ≤ k) (h1 : k ≤ 1099511627776) :
    Calls Try.prog 16 #[.slice A n c, .int .i64 k] w fun e w' => e = .returned (.int .i64 (k + 2 * (n : Int))) ∧ OwnS w' 2 A n c 61 (ints (upFrom k (n * 2))) ∧ Only w.heap.size (gOf A) w w' := by
  obtain ⟨hl, hc, hc', ⟨rfl, h0⟩ | ⟨g, ds, rfl, ho⟩⟩ := h
  · subst h0
    refine (L_markDeepStepS0 _).mono ?_
    rintro e w' ⟨rfl, rfl⟩
    exact ⟨by simp, ⟨by simp [upFrom]; try omega, hc, hc', .inl ⟨rfl, rfl⟩⟩, Only.refl _ _ _⟩
  · refine (L_markDeepStepS _ ho (by omega) hc hc' hn h0 h1).mono ?_
    rintro e w' ⟨rfl, ho', hO⟩
    exact ⟨rfl, ⟨by simp [upFrom]; try omega, hc, hc', .inr ⟨g, ds, rfl, ho'⟩⟩, hO⟩
theorem L_heldDeepStepSG {A : Option Addr} {n c : Nat} {k : Int} (w : World) (h : OwnS w 2 A n c 61 (ints (upFrom k (n * 2)))) (hn : n ≤ 1048576) (h0 : 0 ≤ k) (h1 : k ≤ 1099511627776) :
    Calls Try.prog 17 #[.slice A n c, .int .i64 k] w fun e w' => e = .returned (.int .i64 (k + 2 * (n : Int))) ∧ w = w' := by
  obtain ⟨hl, hc, hc', ⟨rfl, h0⟩ | ⟨g, ds, rfl, ho⟩⟩ := h
  · subst h0
    refine (L_heldDeepStepS0 _).mono ?_
    rintro e w' ⟨rfl, rfl⟩
    exact ⟨by simp, rfl⟩
  · exact L_heldDeepStepS _ ho hc hc' hn h0 h1
end Go.Proofs.Ytaeajeclbcodeaa
