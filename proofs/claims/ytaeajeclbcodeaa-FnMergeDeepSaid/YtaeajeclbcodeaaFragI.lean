/- Fragments in the program: order, insertion, steps. -/
import Derived.Test.YtaeajeclbcodeaaFragS
import Derived.Test.YtaeajeclbcodeaaPhase
import Derived.StillTailTactics
namespace Go.Proofs.Ytaeajeclbcodeaa
open Go.RowKit
set_option linter.unusedVariables false
set_option maxRecDepth 100000
def cmpI (a b : Int) : Int := if a < b then -1 else if a > b then 1 else 0
theorem cmpI_zero {a b : Int} : cmpI a b = 0 ↔ a = b := by unfold cmpI; constructor <;> intro h <;> (repeat' split at h) <;> (try split) <;> (try split) <;> omega
set_option maxHeartbeats 1000000 in
theorem I_isNaN (a : Int) (w : World) : Calls Try.prog 98 #[.int .i64 a] w fun e w' => e = .returned (.bool false) ∧ w = w' := by
  have h : (a != a) = false := by simp
  go_enter Try.func98, Try.ntmps98
  go_wp2
  go_ret
  exact ⟨rfl, rfl⟩
set_option maxHeartbeats 1000000 in
theorem I_Compare (a b : Int) (w : World) : Calls Try.prog 92 #[.int .i64 a, .int .i64 b] w fun e w' => e = .returned (.int .i64 (cmpI a b)) ∧ w = w' := by
  rcases Int.lt_trichotomy a b with h | h | h
  · have HE : Hid (cmpI a b = -1) := by show _ = _; unfold cmpI; rw [if_pos h]
    go_enter Try.func92, Try.ntmps92
    go_wp2_with (go_at_call 98; refine (I_isNaN _ _).mono ?_; rintro e w' ⟨rfl, rfl⟩)
    go_ret
    exact ⟨ret_int HE.out.symm, rfl⟩
  · subst h
    have HE : Hid (cmpI a a = 0) := by show _ = _; unfold cmpI; rw [if_neg (by omega), if_neg (by omega)]
    have h1 : ¬ a < a := by omega
    go_enter Try.func92, Try.ntmps92
    go_wp2_with (go_at_call 98; refine (I_isNaN _ _).mono ?_; rintro e w' ⟨rfl, rfl⟩)
    go_ret
    exact ⟨ret_int HE.out.symm, rfl⟩
  · have HE : Hid (cmpI a b = 1) := by show _ = _; unfold cmpI; rw [if_neg (by omega), if_pos h]
    have h1 : ¬ a < b := by omega
    go_enter Try.func92, Try.ntmps92
    go_wp2_with (go_at_call 98; refine (I_isNaN _ _).mono ?_; rintro e w' ⟨rfl, rfl⟩)
    go_ret
    exact ⟨ret_int HE.out.symm, rfl⟩
/-- The first number that is not 0. -/
def orI : List Int → Int
  | [] => 0
  | x :: l => if x = 0 then orI l else x
theorem orI_drop {l : List Int} : ∀ k, (∀ j (h : j < l.length), j < k → l[j] = 0) → orI l = orI (l.drop k)
  | 0, _ => by simp
  | k + 1, h => by
    rw [orI_drop k (fun j hj hk => h j hj (by omega))]
    rcases Nat.lt_or_ge k l.length with hk | hk
    · rw [List.drop_eq_getElem_cons hk, orI, if_pos (h k hk (by omega))]
    · rw [List.drop_of_length_le hk, List.drop_of_length_le (by omega)]
set_option maxHeartbeats 1000000 in
theorem I_Or {b o c : Nat} {l : List Int} (w : World) (h : RS w 1 (some ⟨b, o, none⟩) l.length c (ints l)) (hs : l.length ≤ 3) : Calls Try.prog 91 #[.slice (some ⟨b, o, none⟩) l.length c] w fun e w' => e = .returned (.int .i64 (orI l)) ∧ w = w' := by
  have H0 := Lib.hid h
  clear h
  go_enter Try.func91, Try.ntmps91
  go_wp2_with fail
  go_loopw [5, 8] (fun _ i wr => ∃ k : Nat, k ≤ l.length ∧ i = .int .i64 k ∧ (∀ j (h : j < l.length), j < k → l[j] = 0) ∧ wr = w) (fun _ i _ => l.length - (intOf i).toNat)
  case atStart => exact ⟨0, Nat.zero_le _, rfl, fun j _ hj => absurd hj (by omega), rfl⟩
  case round =>
    obtain ⟨k, hk, rfl, h0, rfl⟩ := hrel
    have HZ := Lib.hid (orI_drop (l := l) k h0)
    have HZ0 := Lib.hid h0
    have i1 : (0 : Int) ≤ k := by omega
    have y0' : IntKind.i64.wrap ((k : Int) + 1) = (k : Int) + 1 := IntWalk.i64_in _ (by omega)
    clear h0
    by_cases hlt : k < l.length
    · obtain ⟨b', o', he, hbh, hcell⟩ := H0.out.open_.2.2 (by omega)
      injection he with he
      injection he with he1 he2
      subst he1; subst he2
      have x1 : wr.cell? ⟨b, o + k, none⟩ = some (.int .i64 l[k]) := by rw [hcell k (by omega), ints_at hlt]
      have i2 : (k : Int) < l.length := by omega
      have HK : Hid (orI (l.drop k) = if l[k] = 0 then orI (l.drop (k + 1)) else l[k]) := by show _ = _; rw [List.drop_eq_getElem_cons hlt, orI]
      have HN : Hid (l[k] = 0 → ∀ j (h : j < l.length), j < k + 1 → l[j] = 0) := fun h j hj hjk => by
        by_cases e : j = k
        · subst e; exact h
        · exact HZ0.out j hj (by omega)
      have HREL : Hid (k + 1 ≤ l.length) := hlt
      clear hcell
      generalize l[k] = x at *
      by_cases hx : x = 0
      · have hx' : (x != 0) = false := by simpa using hx
        have HNN := Lib.hid (HN.out hx)
        clear hx
        go_wp2
        go_roundw
        case rel => exact ⟨k + 1, HREL.out, by go_num, HNN.out, by trivial⟩
        case measure => simp [intOf]; omega
      · have hx' : (x != 0) = true := by simpa using hx
        have HNN : Hid (orI l = x) := by show _ = _; rw [HZ.out, HK.out, if_neg hx]
        go_wp2
        go_ret
        exact ⟨ret_int HNN.out.symm, rfl⟩
    · obtain rfl : k = l.length := by omega
      have HNN : Hid (orI l = 0) := by show _ = _; rw [HZ.out, List.drop_length]; rfl
      go_wp2
      go_ret
      exact ⟨ret_int HNN.out.symm, rfl⟩
theorem I_Or3 {b o c : Nat} {x y z : Int} (w : World) (h : RS w 1 (some ⟨b, o, none⟩) 3 c (ints [x, y, z])) : Calls Try.prog 91 #[.slice (some ⟨b, o, none⟩) 3 c] w fun e w' => e = .returned (.int .i64 (orI [x, y, z])) ∧ w = w' := I_Or (l := [x, y, z]) w h (Nat.le_refl 3)
theorem orI_less (a b : EFragment) : decide (0 ≤ orI [cmpI a.1 b.1, cmpI a.2.1 b.2.1, cmpI a.2.2.1 b.2.2.1]) = !fLess a b := by
  unfold orI orI orI fLess cmpI
  by_cases h1 : a.1 = b.1
  · by_cases h2 : a.2.1 = b.2.1
    · by_cases h3 : a.2.2.1 < b.2.2.1
      · simp [h1, h2, h3]
      · by_cases h4 : b.2.2.1 < a.2.2.1 <;> simp [h1, h2, h3, h4, orI] <;> omega
    · by_cases h3 : a.2.1 < b.2.1
      · simp [h1, h2, h3]
      · have h4 : b.2.1 < a.2.1 := by omega
        simp [h1, h2, h3, h4]
  · by_cases h3 : a.1 < b.1
    · simp [h1, h3]
    · have h4 : b.1 < a.1 := by omega
      simp [h1, h3, h4]
set_option maxHeartbeats 4000000 in
theorem I_compareFragments (a b : EFragment) (w : World) :
    Calls Try.prog 72 #[vFrag a, vFrag b] w fun e w' => ∃ z : Int, e = .returned (.int .i64 z) ∧ decide (0 ≤ z) = !fLess a b ∧ Below w.heap.size w w' := by
  have HZ := Lib.hid (orI_less a b)
  obtain ⟨a0, a1, a2, a3, a4⟩ := a
  obtain ⟨b0, b1, b2, b3, b4⟩ := b
  dsimp only at HZ
  generalize fLess (a0, a1, a2, a3, a4) (b0, b1, b2, b3, b4) = F at *
  go_enter Try.func72, Try.ntmps72
  go_wp2_with fail
  go_region_held3 (fun w' => w'.cell? ⟨w.heap.size, 0, none⟩ = some (.int .i64 a0) ∧ w'.cell? ⟨w.heap.size, 1, none⟩ = some (.int .i64 a1) ∧ w'.cell? ⟨w.heap.size, 2, none⟩ = some (.int .i64 a2) ∧ w'.cell? ⟨w.heap.size + 1, 0, none⟩ = some (.int .i64 b0) ∧ w'.cell? ⟨w.heap.size + 1, 1, none⟩ = some (.int .i64 b1) ∧ w'.cell? ⟨w.heap.size + 1, 2, none⟩ = some (.int .i64 b2))
    (first | ((try dsimp only); refine ⟨?_, ?_, ?_, ?_, ?_, ?_⟩ <;> (go_simp; done)) | go_keep)
    (first | (go_at_call 92; (with_reducible refine (I_Compare _ _ _).mono ?_); rintro e w' ⟨rfl, rfl⟩) | (go_at_call 91; refine (I_Or3 (x := cmpI a0 b0) (y := cmpI a1 b1) (z := cmpI a2 b2) _ ?_).mono ?_; (exact (Grow.rs (base := 0) (n := 3) (c := 3) (by repeat (first | (with_reducible refine Grow.drewN ?_ _) | (with_reducible refine Grow.drew ?_) | (refine Grow.lit_at (by simp) (by rfl) (Nat.zero_le _) (by unfold maxLen; omega)))))); rintro e w' ⟨rfl, rfl⟩))
  all_goals
    go_wp2
    go_ret
    exact ⟨_, rfl, HZ.out, (by repeat (first | (with_reducible exact Below.refl _ _) | (with_reducible assumption) | ((with_reducible refine Below.alloc ?_ ?_ _); rotate_left; (first | omega | (simp <;> omega))) | ((with_reducible refine Below.setCell ?_ ?_ _); rotate_left; (first | omega | (simp <;> omega))) | (with_reducible refine below_drewN ?_ _) | (with_reducible refine Below.drew ?_) | ((with_reducible refine Below.step (by assumption) ?_ ?_); rotate_left; (first | omega | (simp <;> omega)))))⟩
end Go.Proofs.Ytaeajeclbcodeaa
