/- The pixels of a bucket. -/
import Derived.Test.YthpanpedoeghoaaCrop
import Derived.Test.YthpanpedoeghoaaMade
set_option linter.unusedVariables false
set_option linter.unusedSimpArgs false
set_option linter.unnecessarySimpa false
namespace Go.Proofs.Ythpanpedoeghoaa
open Go.RowKit
set_option linter.unusedVariables false
set_option maxRecDepth 20000
/-- Column and row of pixel k of a bucket. -/
def pxAt (x y p k : Nat) : List Value := [.int .i64 ((x + k % p : Nat) : Int), .int .i64 ((y + k / p : Nat) : Int)]
def pxs (x y p : Nat) : Nat → List Value
  | 0 => []
  | k + 1 => pxs x y p k ++ pxAt x y p k
theorem pxs_len (x y p : Nat) : ∀ k, (pxs x y p k).length = k * 2
  | 0 => rfl
  | k + 1 => by simp [pxs, pxAt, pxs_len x y p k]; omega
theorem pxs_one (x y p : Nat) : ∀ n, ∀ u ∈ pxs x y p n, u.oneCell' = true
  | 0, u, h => by simp [pxs] at h
  | n + 1, u, h => by
    simp only [pxs, List.mem_append] at h
    rcases h with h | h
    · exact pxs_one x y p n u h
    · simp only [pxAt, List.mem_cons, List.not_mem_nil, or_false] at h
      rcases h with rfl | rfl <;> rfl
theorem pairs_one (x y : Int) (u : Value) (h : u ∈ [Value.int .i64 x, Value.int .i64 y]) : u.oneCell' = true := by
  simp only [List.mem_cons, List.not_mem_nil, or_false] at h
  rcases h with rfl | rfl <;> rfl
theorem pxs_at (x y p : Nat) {k : Nat} : ∀ n, k < n → (pxs x y p n)[k * 2]? = some (.int .i64 ((x + k % p : Nat) : Int)) ∧ (pxs x y p n)[k * 2 + 1]? = some (.int .i64 ((y + k / p : Nat) : Int))
  | 0, h => absurd h (by omega)
  | n + 1, h => by
    simp only [pxs]
    by_cases e : k = n
    · subst e
      rw [List.getElem?_append_right (by rw [pxs_len]; omega), List.getElem?_append_right (by rw [pxs_len]; omega), pxs_len]
      constructor
      · simp [pxAt]
      · rw [show k * 2 + 1 - k * 2 = 1 by omega]; simp [pxAt]
    · rw [List.getElem?_append_left (by rw [pxs_len]; omega), List.getElem?_append_left (by rw [pxs_len]; omega)]
      exact pxs_at x y p n (by omega)
theorem T.infoPair : (Try.prog.info? 54).map (fun i => (i.zero, i.size, i.bytes)) = some (some (.agg #[.int .i64 0, .int .i64 0]), 2, 16) := by kernel_rfl
set_option maxHeartbeats 4000000 in
theorem I_pixels {x y p q : Nat} (w : World) (hx : x ≤ 12) (hy : y ≤ 12) (hp : 1 ≤ p ∧ p ≤ 12) (hq : q ≤ 12) :
    Calls Try.prog 22 #[vBucket x y p q] w (MadeRow 54 2 (q * p) (pxs x y p (q * p)) w) := by
  obtain ⟨p1, p2⟩ := hp
  have HG0 : Hid (Grow ((w.alloc (.cells #[.int .i64 x, .int .i64 y, .int .i64 p, .int .i64 q] 36)).alloc (.cells #[] 54)) (w.heap.size + 1) 54 2 (some ⟨w.heap.size + 1, 0, none⟩) 0 0 []) := Grow.lit_at (cs := #[]) (n := 0) (by simp) rfl (by simp) (Nat.zero_le _)
  have HB0 : Hid (Below (w.heap.size + 1) (w.alloc (.cells #[.int .i64 x, .int .i64 y, .int .i64 p, .int .i64 q] 36)) ((w.alloc (.cells #[.int .i64 x, .int .i64 y, .int .i64 p, .int .i64 q] 36)).alloc (.cells #[] 54))) := Lib.hid ((Below.refl _ _).alloc (by simp) _)
  go_enter Try.func22, Try.ntmps22
  go_wp2_with fail
  go_loopw [3, 4, 5] (fun t r c wr => ∃ (m : Nat) (C : Option Addr) (d : Nat), m ≤ q ∧ t = .slice C (m * p) d ∧ r = .int .i64 ((y + m : Nat) : Int) ∧ Grow wr (w.heap.size + 1) 54 2 C (m * p) d (pxs x y p (m * p)) ∧ Below (w.heap.size + 1) (w.alloc (.cells #[.int .i64 x, .int .i64 y, .int .i64 p, .int .i64 q] 36)) wr) (fun _ r _ _ => y + q - (intOf r).toNat)
  case atStart => exact ⟨0, _, _, Nat.zero_le _, by rw [Nat.zero_mul], rfl, by rw [Nat.zero_mul]; exact HG0.out, HB0.out⟩
  case round =>
    obtain ⟨m, C, d, hm, rfl, rfl, hg, hb⟩ := hrel
    have hz := hb.size
    (try simp at hz)
    obtain ⟨cb, fb⟩ := bcell hb
    have k0 : wr.cell? ⟨w.heap.size, 0, none⟩ = some (.int .i64 x) := by rw [cb _ _ (by omega)]; simp
    have k1 : wr.cell? ⟨w.heap.size, 1, none⟩ = some (.int .i64 y) := by rw [cb _ _ (by omega)]; simp
    have k2 : wr.cell? ⟨w.heap.size, 2, none⟩ = some (.int .i64 p) := by rw [cb _ _ (by omega)]; simp
    have k3 : wr.cell? ⟨w.heap.size, 3, none⟩ = some (.int .i64 q) := by rw [cb _ _ (by omega)]; simp
    have HG := Lib.hid hg
    have HB := Lib.hid hb
    clear hg hb cb fb
    by_cases hlt : m < q
    · obtain ⟨Y, hY⟩ : ∃ Y, y + m = Y := ⟨_, rfl⟩
      have hmp : m * p + p ≤ q * p := by rw [← Nat.succ_mul]; exact Nat.mul_le_mul_right _ (by omega)
      have hqp : q * p ≤ 12 * 12 := Nat.mul_le_mul hq p2
      rw [hY]
      have i1 : (Y : Int) < (y : Int) + (q : Int) := by omega
      have w1' : IntKind.i64.wrap ((y : Int) + (q : Int)) = (y : Int) + (q : Int) := IntWalk.i64_in _ (by omega)
      have w2' : IntKind.i64.wrap ((x : Int) + (p : Int)) = (x : Int) + (p : Int) := IntWalk.i64_in _ (by omega)
      have w3' : IntKind.i64.wrap ((Y : Int) + 1) = (Y : Int) + 1 := IntWalk.i64_in _ (by omega)
      go_wp2_with fail
      have hX : ∀ i, i < p → pxAt x y p (m * p + i) = [.int .i64 ((x + i : Nat) : Int), .int .i64 (Y : Int)] := fun i hi => by
        have e1 : (m * p + i) % p = i := by rw [Nat.add_comm, Nat.add_mul_mod_self_right, Nat.mod_eq_of_lt hi]
        have e2 : (m * p + i) / p = m := by rw [Nat.add_comm, Nat.add_mul_div_right _ _ (by omega), Nat.div_eq_of_lt hi, Nat.zero_add]
        rw [pxAt, e1, e2, hY]
      have HX := Lib.hid hX
      clear hX
      go_loopw [3, 5] (fun t c wr => ∃ (i : Nat) (C : Option Addr) (d : Nat), i ≤ p ∧ t = .slice C (m * p + i) d ∧ c = .int .i64 ((x + i : Nat) : Int) ∧ Grow wr (w.heap.size + 1) 54 2 C (m * p + i) d (pxs x y p (m * p + i)) ∧ Below (w.heap.size + 1) (w.alloc (.cells #[.int .i64 x, .int .i64 y, .int .i64 p, .int .i64 q] 36)) wr) (fun _ c _ => x + p - (intOf c).toNat)
      case atStart => exact ⟨0, _, _, Nat.zero_le _, rfl, rfl, HG.out, HB.out⟩
      case round =>
        obtain ⟨i, C2, d2, hi, rfl, rfl, hg, hb⟩ := hrel
        clear k0 k1 k2 k3
        have hz1 := hb.size
        (try simp at hz1)
        obtain ⟨cb, fb⟩ := bcell hb
        have k0 : wr.cell? ⟨w.heap.size, 0, none⟩ = some (.int .i64 x) := by rw [cb _ _ (by omega)]; simp
        have k1 : wr.cell? ⟨w.heap.size, 1, none⟩ = some (.int .i64 y) := by rw [cb _ _ (by omega)]; simp
        have k2 : wr.cell? ⟨w.heap.size, 2, none⟩ = some (.int .i64 p) := by rw [cb _ _ (by omega)]; simp
        have k3 : wr.cell? ⟨w.heap.size, 3, none⟩ = some (.int .i64 q) := by rw [cb _ _ (by omega)]; simp
        have HG1 := Lib.hid hg
        have HB1 := Lib.hid hb
        clear hg hb cb fb
        obtain ⟨X, hXi⟩ : ∃ X, x + i = X := ⟨_, rfl⟩
        obtain ⟨N, hN⟩ : ∃ N, m * p + i = N := ⟨_, rfl⟩
        rw [hXi]
        by_cases hlt1 : i < p
        · have j1 : (X : Int) < (x : Int) + (p : Int) := by omega
          have w4' : IntKind.i64.wrap ((X : Int) + 1) = (X : Int) + 1 := IntWalk.i64_in _ (by omega)
          have HS : Hid (pxs x y p (m * p + (i + 1)) = pxs x y p N ++ [.int .i64 (X : Int), .int .i64 (Y : Int)]) := by show _ = _; rw [← Nat.add_assoc, hN, pxs, ← hN, HX.out i hlt1, hXi]
          rw [hN] at HG1 ⊢
          have HN1 : Hid (m * p + (i + 1) = N + 1) := by show _ = _; omega
          have hNl : N ≤ 144 := by omega
          clear hmp hqp hY
          go_wp2_with (at_builtin; refine wpList_app (by rfl) _ _ 53 (by rfl) (w.heap.size + 1) 54 (.agg #[.int .i64 0, .int .i64 0]) 2 16 Try.underlying53 T.infoPair rfl (by decide) (xs := pxs x y p N) (by rfl) ?_ (ys := [.int .i64 (X : Int), .int .i64 (Y : Int)]) (by rfl) ?_ (pairs_one _ _) ?_ ?_ ?_ ?_; (exact (by repeat (first | (with_reducible exact HG1.out) | (with_reducible refine Grow.alloc ?_ _) | (with_reducible refine Grow.drewN ?_ _) | (with_reducible refine Grow.drew ?_) | ((with_reducible refine Grow.far ?_ ?_ _); rotate_left; (first | omega | (simp <;> omega))) | (with_reducible refine Grow.step (by assumption) ?_)))); (exact (Grow.rs (base := 0) (n := 1) (c := 1) (by repeat (first | (with_reducible refine Grow.drewN ?_ _) | (with_reducible refine Grow.drew ?_) | (refine Grow.lit_at (by simp) (by rfl) (Nat.zero_le _) (by unfold maxLen; omega)))))); (unfold maxLen; omega); (omega); (first | omega | (simp <;> omega)); rintro A' c' w2 gA; have HG2 := Lib.hid gA.1; have hB2 : Below (w.heap.size + 1) (w.alloc (.cells #[.int .i64 x, .int .i64 y, .int .i64 p, .int .i64 q] 36)) w2 := Below.trans (by repeat (first | (with_reducible exact Below.refl _ _) | (with_reducible exact HB1.out) | (with_reducible assumption) | ((with_reducible refine Below.alloc ?_ ?_ _); rotate_left; (first | omega | (simp <;> omega))) | ((with_reducible refine Below.setCell ?_ ?_ _); rotate_left; (first | omega | (simp <;> omega))) | (with_reducible refine below_drewN ?_ _) | (with_reducible refine Below.drew ?_) | ((with_reducible refine Below.step (by assumption) ?_ ?_); rotate_left; (first | omega | (simp <;> omega))))) gA.2.1; have HB2 := Lib.hid hB2; clear gA hB2)
          go_roundw
          case rel => exact ⟨i + 1, _, _, by omega, by rw [HN1.out], by rw [← hXi]; go_num, by rw [HS.out, HN1.out]; exact HG2.out, HB2.out⟩
          case measure => simp [intOf]; omega
        · obtain rfl : i = p := by omega
          have j1 : ¬ (X : Int) < (x : Int) + (i : Int) := by omega
          have HN1 : Hid (m * i + i = (m + 1) * i) := by show _ = _; rw [Nat.succ_mul]
          rw [← hN] at *
          clear hmp hqp hN
          go_wp2
          go_roundw
          case rel => exact ⟨m + 1, _, _, by omega, by rw [← HN1.out], by rw [← hY]; go_num, by rw [← HN1.out]; exact HG1.out, HB1.out⟩
          case measure => simp [intOf]; omega
    · obtain rfl : m = q := by omega
      have i1 : ¬ ((y + m : Nat) : Int) < (y : Int) + (m : Int) := by omega
      have w1' : IntKind.i64.wrap ((y : Int) + (m : Int)) = (y : Int) + (m : Int) := IntWalk.i64_in _ (by omega)
      go_wp2
      go_ret
      exact Grow.made HG.out (by omega) (Below.trans (by repeat (first | (with_reducible exact Below.refl _ _) | (with_reducible assumption) | ((with_reducible refine Below.alloc ?_ ?_ _); rotate_left; (first | omega | (simp <;> omega))) | ((with_reducible refine Below.setCell ?_ ?_ _); rotate_left; (first | omega | (simp <;> omega))) | (with_reducible refine below_drewN ?_ _) | (with_reducible refine Below.drew ?_) | ((with_reducible refine Below.step (by assumption) ?_ ?_); rotate_left; (first | omega | (simp <;> omega))))) (HB.out.mono (by omega)))
end Go.Proofs.Ythpanpedoeghoaa
