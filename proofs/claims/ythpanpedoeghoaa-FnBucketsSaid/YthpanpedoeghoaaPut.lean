/- A film that several may change: put. -/
import Derived.Test.YthpanpedoeghoaaLocks
import Derived.Test.YthpanpedoeghoaaFilmV
import Derived.StillTailTactics
import Derived.Deep.RegionHeld3
set_option linter.unusedVariables false
set_option linter.unusedSimpArgs false
set_option linter.unnecessarySimpa false
namespace Go.Proofs.Ythpanpedoeghoaa
open Go.RowKit Go.MuLone
set_option linter.unusedVariables false
set_option maxRecDepth 20000
/-- The cells of a guarded film: the lock is free. -/
def gcells (W H : Int) (g1 g2 n m k1 k2 : Nat) : List Value := [.int .i32 0, .int .u32 0, .int .i64 W, .int .i64 H, .slice (some ⟨g1, 0, none⟩) n k1, .slice (some ⟨g2, 0, none⟩) m k2]
set_option maxHeartbeats 4000000 in
theorem I_put_no {G g1 g2 k1 k2 k : Nat} {W H v : Int} {s : List Int} {t : List Bool} {d1 d2 : List Value} (w : World) (hG : Own w G 68 (gcells W H g1 g2 s.length t.length k1 k2)) (h1 : Own w g1 3 (ints s ++ d1)) (h2 : Own w g2 4 (bools t ++ d2))
    (hs : k < s.length) (ht : k < t.length) (hm : s.length ≤ 1048576) (hm2 : t.length ≤ 1048576) (n1 : G ≠ g1) (n2 : G ≠ g2) (hc : t[k] = true) (hv : s[k] ≠ v) :
    Calls Try.prog 26 #[.pointer (some ⟨G, 0, none⟩), .int .i64 k, .int .i64 v] w fun e w' => e = .returned (.bool false) ∧ Own w' G 68 (gcells W H g1 g2 s.length t.length k1 k2) ∧ Only w.heap.size [G] w w' := by
  have c0 := hG.cell 0
  have c1 := hG.cell 2
  have c2 := hG.cell 3
  have c3 := hG.cell 4
  have c4 := hG.cell 5
  have fG := hG.frozen
  simp only [gcells, List.getElem?_cons_zero, List.getElem?_cons_succ] at c0 c1 c2 c3 c4
  have d1' : w.cell? ⟨g1, k, none⟩ = some (.int .i64 s[k]) := by rw [h1.cell, List.getElem?_append_left (by simpa using hs), ints_at hs]
  have d2' : w.cell? ⟨g2, k, none⟩ = some (.bool true) := by rw [h2.cell, List.getElem?_append_left (by simpa using ht), bools_at ht, hc]
  have hv' : (s[k] != v) = true := by simpa using hv
  have i0 : (0 : Int) ≤ k := by omega
  have i1 : (k : Int) < s.length := by omega
  have i2 : (k : Int) < t.length := by omega
  have HG := Lib.hid hG
  have hlt := hG.lt
  clear hG h1 h2 hc hv
  generalize s[k] = x at *
  go_enter_defers Try.func26, Try.ntmps26
  go_wp2_with (first
    | (go_at_call 35; refine (lock_free muLib ⟨G, 0, none⟩ _ c0 (fG 0)).mono ?_; rintro e w' ⟨rfl, rfl⟩))
  refine leaves_cons (f := 36) (args := #[.pointer (some ⟨G, 0, none⟩)]) (by simp) (by simp [go_sem]) ?_
  refine (unlock_deferred muLib ⟨G, 0, none⟩ .returning _ ?_ ?_).mono ?_
  · exact World.cell?_setCell_same w ⟨G, 0, none⟩ (.int .i32 1) c0
  · simp [fG]
  rintro e u' w'' ⟨rfl, rfl, rfl⟩
  refine ⟨_, results_tmp rfl _ _ _, rfl, ?_, ?_⟩
  · exact Own.set_ (Own.set_ HG.out 0 (.int .i32 1)) 0 (.int .i32 0)
  · exact Only.setCell (p := ⟨G, 0, none⟩) (Only.setCell (p := ⟨G, 0, none⟩) (Only.refl _ _ _) (by simp) _) (by simp) _
set_option maxHeartbeats 4000000 in
theorem I_put_yes {G g1 g2 k1 k2 k : Nat} {W H v : Int} {s : List Int} {t : List Bool} {d1 d2 : List Value} (w : World) (hG : Own w G 68 (gcells W H g1 g2 s.length t.length k1 k2)) (h1 : Own w g1 3 (ints s ++ d1)) (h2 : Own w g2 4 (bools t ++ d2))
    (hs : k < s.length) (ht : k < t.length) (hm : s.length ≤ 1048576) (hm2 : t.length ≤ 1048576) (n1 : G ≠ g1) (n2 : G ≠ g2) (n3 : g1 ≠ g2) (hc : t[k] = true → s[k] = v) :
    Calls Try.prog 26 #[.pointer (some ⟨G, 0, none⟩), .int .i64 k, .int .i64 v] w fun e w' => e = .returned (.bool true) ∧ Own w' G 68 (gcells W H g1 g2 s.length t.length k1 k2) ∧
      Own w' g1 3 (ints (s.set k v) ++ d1) ∧ Own w' g2 4 (bools (t.set k true) ++ d2) ∧ Only w.heap.size [G, g1, g2] w w' := by
  have c0 := hG.cell 0
  have c1 := hG.cell 2
  have c2 := hG.cell 3
  have c3 := hG.cell 4
  have c4 := hG.cell 5
  have fG := hG.frozen
  simp only [gcells, List.getElem?_cons_zero, List.getElem?_cons_succ] at c0 c1 c2 c3 c4
  have d1' : w.cell? ⟨g1, k, none⟩ = some (.int .i64 s[k]) := by rw [h1.cell, List.getElem?_append_left (by simpa using hs), ints_at hs]
  have d2' : w.cell? ⟨g2, k, none⟩ = some (.bool t[k]) := by rw [h2.cell, List.getElem?_append_left (by simpa using ht), bools_at ht]
  have e1' : w.frozen? ⟨g1, k, none⟩ = false := h1.frozen _
  have e2' : w.frozen? ⟨g2, k, none⟩ = false := h2.frozen _
  have i0 : (0 : Int) ≤ k := by omega
  have i1 : (k : Int) < s.length := by omega
  have i2 : (k : Int) < t.length := by omega
  have n1' : ¬ g1 = G := fun e => n1 e.symm
  have n2' : ¬ g2 = G := fun e => n2 e.symm
  have n3' : ¬ g2 = g1 := fun e => n3 e.symm
  have HG := Lib.hid hG
  have H1 := Lib.hid h1
  have H2 := Lib.hid h2
  have hlt := hG.lt
  have hs1 : Hid ((ints s).set k (.int .i64 v) = ints (s.set k v)) := by show _ = _; simp only [ints, List.map_set]
  have ht1 : Hid ((bools t).set k (.bool true) = bools (t.set k true)) := by show _ = _; simp only [bools, List.map_set]
  have hl1 : Hid (k < (ints s).length) := by show _ < _; simpa using hs
  have hl2 : Hid (k < (bools t).length) := by show _ < _; simpa using ht
  clear hG h1 h2
  generalize s[k] = x at *
  generalize t[k] = y at *
  have key : ∀ (W1 : World), W1 = ((((w.setCell ⟨G, 0, none⟩ (.int .i32 1)).setCell ⟨g2, k, none⟩ (.bool true)).setCell ⟨g1, k, none⟩ (.int .i64 v)).drew).setCell ⟨G, 0, none⟩ (.int .i32 0) → Own W1 G 68 (gcells W H g1 g2 s.length t.length k1 k2) ∧
      Own W1 g1 3 (ints (s.set k v) ++ d1) ∧ Own W1 g2 4 (bools (t.set k true) ++ d2) ∧ Only w.heap.size [G, g1, g2] w W1 := by
    intro W1 hW
    subst hW
    refine ⟨?_, ?_, ?_, ?_⟩
    · exact Own.set_ (Own.drew (Own.far (Own.far (Own.set_ HG.out 0 (.int .i32 1)) n2 _) n1 _)) 0 (.int .i32 0)
    · rw [← hs1.out]; exact Own.far (Own.drew (Own.set_left (Own.far (Own.far H1.out n1' _) n3 _) k hl1.out _)) n1' _
    · rw [← ht1.out]; exact Own.far (Own.drew (Own.far (Own.set_left (Own.far H2.out n2' _) k hl2.out _) n3' _)) n2' _
    · exact Only.setCell (p := ⟨G, 0, none⟩) (Only.drew (Only.setCell (p := ⟨g1, k, none⟩) (Only.setCell (p := ⟨g2, k, none⟩) (Only.setCell (p := ⟨G, 0, none⟩) (Only.refl _ _ _) (by simp) _) (by simp) _) (by simp) _)) (by simp) _
  have KEY := Lib.hid key
  clear key
  cases y
  case true =>
    obtain rfl := hc rfl
    clear hc
    have hx : (x != x) = false := by simp
    go_enter_defers Try.func26, Try.ntmps26
    go_wp2_with (first
      | (go_at_call 35; refine (lock_free muLib ⟨G, 0, none⟩ _ c0 (fG 0)).mono ?_; rintro e w' ⟨rfl, rfl⟩))
    go_region_held3 (fun w' => w'.cell? ⟨G, 4, none⟩ = some (.slice (some ⟨g1, 0, none⟩) s.length k1) ∧ w'.cell? ⟨G, 5, none⟩ = some (.slice (some ⟨g2, 0, none⟩) t.length k2) ∧ w'.frozen? ⟨g1, k, none⟩ = false ∧ w'.frozen? ⟨g2, k, none⟩ = false)
      (first | ((try dsimp only); refine ⟨?_, ?_, ?_, ?_⟩ <;> (go_simp; done)) | go_keep)
      (fail)
    clear d1' d2' e1' e2'
    go_wp2_with fail
    refine leaves_cons (f := 36) (args := #[.pointer (some ⟨G, 0, none⟩)]) (by simp) (by simp [go_sem]) ?_
    refine (unlock_deferred muLib ⟨G, 0, none⟩ .returning _ ?_ ?_).mono ?_
    · simp [c0, go_sem, n1, n2, n1', n2']
    · simp [fG]
    rintro e u' w'' ⟨rfl, rfl, rfl⟩
    exact ⟨_, results_tmp rfl _ _ _, rfl, KEY.out _ rfl⟩
  case false =>
    clear hc
    go_enter_defers Try.func26, Try.ntmps26
    go_wp2_with (first
      | (go_at_call 35; refine (lock_free muLib ⟨G, 0, none⟩ _ c0 (fG 0)).mono ?_; rintro e w' ⟨rfl, rfl⟩))
    go_region_held3 (fun w' => w'.cell? ⟨G, 4, none⟩ = some (.slice (some ⟨g1, 0, none⟩) s.length k1) ∧ w'.cell? ⟨G, 5, none⟩ = some (.slice (some ⟨g2, 0, none⟩) t.length k2) ∧ w'.frozen? ⟨g1, k, none⟩ = false ∧ w'.frozen? ⟨g2, k, none⟩ = false)
      (first | ((try dsimp only); refine ⟨?_, ?_, ?_, ?_⟩ <;> (go_simp; done)) | go_keep)
      (fail)
    clear d1' d2' e1' e2'
    go_wp2_with fail
    refine leaves_cons (f := 36) (args := #[.pointer (some ⟨G, 0, none⟩)]) (by simp) (by simp [go_sem]) ?_
    refine (unlock_deferred muLib ⟨G, 0, none⟩ .returning _ ?_ ?_).mono ?_
    · simp [c0, go_sem, n1, n2, n1', n2']
    · simp [fG]
    rintro e u' w'' ⟨rfl, rfl, rfl⟩
    exact ⟨_, results_tmp rfl _ _ _, rfl, KEY.out _ rfl⟩
end Go.Proofs.Ythpanpedoeghoaa
