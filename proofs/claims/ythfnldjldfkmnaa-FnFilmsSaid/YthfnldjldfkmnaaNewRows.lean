/- NewAccum and NewFilm of the reference and of the program. -/
import Derived.Test.YthfnldjldfkmnaaCamera
import Derived.Test.YthfnldjldfkmnaaRecs
import Derived.Test.YthfnldjldfkmnaaImageV
import Derived.Deep.RegionHeld3
import Derived.Deep.DeepCutAuto
namespace Go.Proofs.Ythfnldjldfkmnaa
open Go.RowKit
set_option linter.unusedVariables false
/-- An integer made into a natural number. -/
theorem area_nat {W H : Int} (h : sizeB W H = true) : ∃ n : Nat, W * H = n ∧ 1 ≤ n ∧ n ≤ 144 := by
  have := area_rng h
  exact ⟨(W * H).toNat, by omega, by omega, by omega⟩
theorem validCam_size {a b c d f g : Int} (h : validCam a b c d f g = true) : sizeB a b = true := by
  simp only [validCam, Bool.and_eq_true] at h
  unfold sizeB
  rw [h.1, h.2.1]
  rfl
theorem zeros_ints (n : Nat) : (madeCells #[Value.int .i64 0] n).toList = ints (List.replicate n 0) := by rw [toList_madeCells_one]; simp [ints]
/-- What NewAccum leaves. -/
def OutNewAccum (ok : Bool) (a b : Int) (n : Nat) (w : World) (r : Ending) (w' : World) : Prop :=
  Below w.heap.size w w' ∧ ((ok = false ∧ r = .returned (.tuple #[vAccum 0 0 (.slice none 0 0) (.slice none 0 0), .bool false])) ∨
    (ok = true ∧ ∃ g1 g2, r = .returned (.tuple #[vAccum a b (sl g1 n) (sl g2 n), .bool true]) ∧ Own w' g1 3 (ints (List.replicate n 0)) ∧ Own w' g2 3 (ints (List.replicate n 0)) ∧ w.heap.size ≤ g1 ∧ w.heap.size ≤ g2 ∧ g1 ≠ g2))
set_option maxHeartbeats 8000000 in
theorem S_NewAccum {a b c d : Int} {e : Bool} {f g : Int} {n : Nat} (w : World) (hn : validCam a b c d f g = true → a * b = n ∧ n ≤ 144) :
    Calls Try.prog 165 #[vCamera a b c d e f g] w (OutNewAccum (validCam a b c d f g) a b n w) := by
  by_cases hv : validCam a b c d f g = true
  case neg =>
    have hv' : validCam a b c d f g = false := by simpa using hv
    have HV := Lib.hid hv'
    clear hv hn
    go_enter Try.func165, Try.ntmps165
    go_wp2_with (go_at_call 181; refine (S_IsValidCamera _).mono ?_; rintro e w' ⟨rfl, hb⟩; have hz := hb.size; (try simp at hz); have c0 := fun o => hb.cell (p := ⟨w.heap.size, o, none⟩) (by first | omega | (simp <;> omega)); have f0 := fun o => hb.frozen (p := ⟨w.heap.size, o, none⟩) (by first | omega | (simp <;> omega)); have z0 : w.heap.size < w'.heap.size := (by omega); have c1 := fun o => hb.cell (p := ⟨w.heap.size + 1, o, none⟩) (by first | omega | (simp <;> omega)); have f1 := fun o => hb.frozen (p := ⟨w.heap.size + 1, o, none⟩) (by first | omega | (simp <;> omega)); have z1 : w.heap.size + 1 < w'.heap.size := (by omega))
    exact bodyPost_ret (v := .tuple #[vAccum 0 0 (.slice none 0 0) (.slice none 0 0), .bool false]) (by simp [results, Try.results165, go_sem, *]) rfl ⟨(by repeat (first | (with_reducible exact Below.refl _ _) | (with_reducible assumption) | ((with_reducible refine Below.alloc ?_ ?_ _); rotate_left; (first | omega | (simp <;> omega))) | ((with_reducible refine Below.setCell ?_ ?_ _); rotate_left; (first | omega | (simp <;> omega))) | (with_reducible refine below_drewN ?_ _) | (with_reducible refine Below.drew ?_) | ((with_reducible refine Below.step (by assumption) ?_ ?_); rotate_left; (first | omega | (simp <;> omega))))), .inl ⟨HV.out, rfl⟩⟩
  case pos =>
    obtain ⟨hn1, hn2⟩ := hn hv
    have hp : IntKind.i64.wrap (a * b) = a * b := IntWalk.i64_in _ (by omega)
    have hmk : ∀ wx : World, (Instr.makeSlice 36 (.int .i64 (a * b)) (.int .i64 (a * b))).run Try.prog wx = .ok (.slice (some ⟨wx.heap.size, 0, none⟩) n n) (wx.alloc (.cells (madeCells #[Value.int .i64 0] n) 3)) := by
      intro wx
      rw [hn1]
      have := run_mk (P := Try.prog) 36 3 _ 1 8 Try.underlying36 T.infoInt n (by omega) (by omega) wx
      simp only [Nat.mul_one] at this
      exact this
    clear hn hn1
    go_enter Try.func165, Try.ntmps165
    go_wp2_with (go_at_call 181; refine (S_IsValidCamera _).mono ?_; rintro e w' ⟨rfl, hb⟩; have hz := hb.size; (try simp at hz); have c0 := fun o => hb.cell (p := ⟨w.heap.size, o, none⟩) (by first | omega | (simp <;> omega)); have f0 := fun o => hb.frozen (p := ⟨w.heap.size, o, none⟩) (by first | omega | (simp <;> omega)); have z0 : w.heap.size < w'.heap.size := (by omega); have c1 := fun o => hb.cell (p := ⟨w.heap.size + 1, o, none⟩) (by first | omega | (simp <;> omega)); have f1 := fun o => hb.frozen (p := ⟨w.heap.size + 1, o, none⟩) (by first | omega | (simp <;> omega)); have z1 : w.heap.size + 1 < w'.heap.size := (by omega))
    go_region_held3 (fun w' => w'.cell? ⟨w.heap.size, 0, none⟩ = some (.int .i64 a) ∧ w'.cell? ⟨w.heap.size, 1, none⟩ = some (.int .i64 b))
      (first | ((try dsimp only); refine ⟨?_, ?_⟩ <;> (go_simp; done)) | go_keep)
      (fail)
    · go_wp2
      refine bodyPost_ret (v := .tuple #[vAccum a b (sl w'.heap.size n) (sl (w'.heap.size + 1) n), .bool true]) (by have zz : w.heap.size + 1 < w'.heap.size + 1 := Nat.lt_succ_of_lt z1; simp [results, Try.results165, go_sem, *]) rfl ⟨(by repeat (first | (with_reducible exact Below.refl _ _) | (with_reducible assumption) | ((with_reducible refine Below.alloc ?_ ?_ _); rotate_left; (first | omega | (simp <;> omega))) | ((with_reducible refine Below.setCell ?_ ?_ _); rotate_left; (first | omega | (simp <;> omega))) | (with_reducible refine below_drewN ?_ _) | (with_reducible refine Below.drew ?_) | ((with_reducible refine Below.step (by assumption) ?_ ?_); rotate_left; (first | omega | (simp <;> omega))))), .inr ⟨hv, _, _, rfl, ?_, ?_, (by omega), (by omega), (by omega)⟩⟩
      · rw [← zeros_ints]; (with_reducible refine Own.drew (Own.alloc (Own.at_new ?_) _)); simp
      · rw [← zeros_ints]; (with_reducible refine Own.drew (Own.at_new ?_)); simp
    · go_wp2
      refine bodyPost_ret (v := .tuple #[vAccum a b (sl (w'.heap.size + 1) n) (sl w'.heap.size n), .bool true]) (by have zz : w.heap.size + 1 < w'.heap.size + 1 := Nat.lt_succ_of_lt z1; simp [results, Try.results165, go_sem, *]) rfl ⟨(by repeat (first | (with_reducible exact Below.refl _ _) | (with_reducible assumption) | ((with_reducible refine Below.alloc ?_ ?_ _); rotate_left; (first | omega | (simp <;> omega))) | ((with_reducible refine Below.setCell ?_ ?_ _); rotate_left; (first | omega | (simp <;> omega))) | (with_reducible refine below_drewN ?_ _) | (with_reducible refine Below.drew ?_) | ((with_reducible refine Below.step (by assumption) ?_ ?_); rotate_left; (first | omega | (simp <;> omega))))), .inr ⟨hv, _, _, rfl, ?_, ?_, (by omega), (by omega), (by omega)⟩⟩
      · rw [← zeros_ints]; (with_reducible refine Own.drew (Own.at_new ?_)); simp
      · rw [← zeros_ints]; (with_reducible refine Own.drew (Own.alloc (Own.at_new ?_) _)); simp
end Go.Proofs.Ythfnldjldfkmnaa
