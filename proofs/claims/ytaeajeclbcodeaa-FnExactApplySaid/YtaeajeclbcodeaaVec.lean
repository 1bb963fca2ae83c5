/- Vectors and transforms: Apply of the reference and of the program. -/
import Derived.Test.YtaeajeclbcodeaaDivs
import Derived.Test.YtaeajeclbcodeaaMade
import Derived.Deep.RegionHeld3
namespace Go.Proofs.Ytaeajeclbcodeaa
open Go.RowKit
set_option linter.unusedVariables false
set_option maxRecDepth 100000
abbrev vVec (x y z : Int) : Value := .agg #[.int .i64 x, .int .i64 y, .int .i64 z]
def cl (n : Int) : Int := clampF n (-1000000) 1000000
theorem cl_rng (n : Int) : -1000000 ≤ cl n ∧ cl n ≤ 1000000 := by unfold cl clampF; split <;> (try split) <;> omega
theorem cl_id {n : Int} (h : -1000000 ≤ n ∧ n ≤ 1000000) : cl n = n := by unfold cl clampF; split <;> (try split) <;> omega
def validV (x y z : Int) : Bool := decide (x = cl x) && (decide (y = cl y) && decide (z = cl z))
set_option maxHeartbeats 1000000 in
theorem S_l02N (n : Int) (w : World) :
    Calls Try.prog 55 #[.int .i64 n] w fun e w' => e = .returned (.int .i64 (cl n)) ∧ w = w' := by
  go_enter Try.func55, Try.ntmps55
  go_wp2_with (first | (go_at_call 76; refine (S_Clamp _ _ _ _).mono ?_; rintro e w' ⟨rfl, rfl⟩) | fail)
  go_ret
  exact ⟨rfl, rfl⟩
set_option maxHeartbeats 1000000 in
theorem I_clampC (n : Int) (w : World) :
    Calls Try.prog 77 #[.int .i64 n] w fun e w' => e = .returned (.int .i64 (cl n)) ∧ w = w' := by
  go_enter Try.func77, Try.ntmps77
  go_wp2_with (first | (go_at_call 73; refine (I_Clamp _ _ _ _).mono ?_; rintro e w' ⟨rfl, rfl⟩) | fail)
  go_ret
  exact ⟨rfl, rfl⟩
set_option maxHeartbeats 1000000 in
theorem I_plusC (a b : Int) (w : World) (h : -4000000000000000000 ≤ a ∧ a ≤ 4000000000000000000) (h' : -4000000000000000000 ≤ b ∧ b ≤ 4000000000000000000) :
    Calls Try.prog 78 #[.int .i64 a, .int .i64 b] w fun e w' => e = .returned (.int .i64 (a + b)) ∧ w = w' := by
  have y1' : IntKind.i64.wrap (a + b) = a + b := IntWalk.i64_in _ (by omega)
  go_enter Try.func78, Try.ntmps78
  go_wp2
  go_ret
  exact ⟨rfl, rfl⟩
set_option maxHeartbeats 1000000 in
theorem I_dotC (a b : Int) (w : World) (h : -4000000000000000000 ≤ a * b ∧ a * b ≤ 4000000000000000000) :
    Calls Try.prog 61 #[.int .i64 a, .int .i64 b] w fun e w' => e = .returned (.int .i64 (a * b)) ∧ w = w' := by
  have y1' : IntKind.i64.wrap (a * b) = a * b := IntWalk.i64_in _ (by omega)
  go_enter Try.func61, Try.ntmps61
  go_wp2
  go_ret
  exact ⟨rfl, rfl⟩
set_option maxHeartbeats 1000000 in
theorem I_overC (x n : Int) (B : Nat) (w : World) (h : w.cell? ⟨B, 0, none⟩ = some (.int .i64 n)) (hx : -4000000000000000000 ≤ x ∧ x ≤ 4000000000000000000) :
    Calls Try.prog 63 #[.int .i64 x, .pointer (some ⟨B, 0, none⟩)] w fun e w' => e = .returned (.int .i64 (fdivF x n)) ∧ w = w' := by
  go_enter Try.func63, Try.ntmps63
  go_wp2_with (first | (go_at_call 64; refine (I_FloorDiv _ (by omega) (by omega)).mono ?_; rintro e w' ⟨rfl, rfl⟩) | fail)
  go_ret
  exact ⟨rfl, rfl⟩
set_option maxHeartbeats 4000000 in
theorem S_l02V (x y z : Int) (w : World) :
    Calls Try.prog 24 #[vVec x y z] w fun e w' => e = .returned (vVec (cl x) (cl y) (cl z)) ∧ Below w.heap.size w w' := by
  go_enter Try.func24, Try.ntmps24
  go_wp2_with fail
  go_region_held3 (fun w' => w'.cell? ⟨w.heap.size, 0, none⟩ = some (.int .i64 x) ∧ w'.cell? ⟨w.heap.size, 1, none⟩ = some (.int .i64 y) ∧ w'.cell? ⟨w.heap.size, 2, none⟩ = some (.int .i64 z))
    (first | ((try dsimp only); refine ⟨?_, ?_, ?_⟩ <;> (go_simp; done)) | go_keep)
    (first | (go_at_call 55; (with_reducible refine (S_l02N _ _).mono ?_); rintro e w' ⟨rfl, rfl⟩) | fail)
  all_goals
    go_wp2
    exact bodyPost_ret (v := vVec (cl x) (cl y) (cl z)) (by simp [results, Try.results24, go_sem, *]) rfl ⟨rfl, (by repeat (first | (with_reducible exact Below.refl _ _) | (with_reducible assumption) | ((with_reducible refine Below.alloc ?_ ?_ _); rotate_left; (first | omega | (simp <;> omega))) | ((with_reducible refine Below.setCell ?_ ?_ _); rotate_left; (first | omega | (simp <;> omega))) | (with_reducible refine below_drewN ?_ _) | (with_reducible refine Below.drew ?_) | ((with_reducible refine Below.step (by assumption) ?_ ?_); rotate_left; (first | omega | (simp <;> omega)))))⟩
set_option maxHeartbeats 4000000 in
theorem I_eachClamp (x y z : Int) (w : World) :
    Calls Try.prog 62 #[vVec x y z, .func (.func 77) #[] #[]] w fun e w' => e = .returned (vVec (cl x) (cl y) (cl z)) ∧ Below w.heap.size w w' := by
  go_enter Try.func62, Try.ntmps62
  go_wp2_with fail
  go_region_held3 (fun w' => w'.cell? ⟨w.heap.size, 0, none⟩ = some (.int .i64 x) ∧ w'.cell? ⟨w.heap.size, 1, none⟩ = some (.int .i64 y) ∧ w'.cell? ⟨w.heap.size, 2, none⟩ = some (.int .i64 z))
    (first | ((try dsimp only); refine ⟨?_, ?_, ?_⟩ <;> (go_simp; done)) | go_keep)
    (first | (go_at_call 77; (with_reducible refine (I_clampC _ _).mono ?_); rintro e w' ⟨rfl, rfl⟩) | fail)
  all_goals
    go_wp2
    exact bodyPost_ret (v := vVec (cl x) (cl y) (cl z)) (by simp [results, Try.results62, go_sem, *]) rfl ⟨rfl, (by repeat (first | (with_reducible exact Below.refl _ _) | (with_reducible assumption) | ((with_reducible refine Below.alloc ?_ ?_ _); rotate_left; (first | omega | (simp <;> omega))) | ((with_reducible refine Below.setCell ?_ ?_ _); rotate_left; (first | omega | (simp <;> omega))) | (with_reducible refine below_drewN ?_ _) | (with_reducible refine Below.drew ?_) | ((with_reducible refine Below.step (by assumption) ?_ ?_); rotate_left; (first | omega | (simp <;> omega)))))⟩
def bigV (x y z : Int) : Prop := (-4000000000000000000 ≤ x ∧ x ≤ 4000000000000000000) ∧ (-4000000000000000000 ≤ y ∧ y ≤ 4000000000000000000) ∧ -4000000000000000000 ≤ z ∧ z ≤ 4000000000000000000
set_option maxHeartbeats 4000000 in
theorem I_eachOver (x y z n : Int) (B : Nat) (w : World) (h : w.cell? ⟨B, 0, none⟩ = some (.int .i64 n)) (hB : B < w.heap.size) (hx : bigV x y z) :
    Calls Try.prog 62 #[vVec x y z, .func (.func 63) #[] #[.pointer (some ⟨B, 0, none⟩)]] w fun e w' => e = .returned (vVec (fdivF x n) (fdivF y n) (fdivF z n)) ∧ Below w.heap.size w w' := by
  have hne : ¬ B = w.heap.size := by omega
  have hne2 : ¬ B = w.heap.size + 1 := by omega
  have HX := Lib.hid hx.1
  have HY := Lib.hid hx.2.1
  have HZ := Lib.hid hx.2.2
  have HB : Hid (∀ wx, Below w.heap.size w wx → wx.cell? ⟨B, 0, none⟩ = some (.int .i64 n)) := fun wx hw => by rw [hw.cell (p := ⟨B, 0, none⟩) hB]; exact h
  clear hx
  go_enter Try.func62, Try.ntmps62
  go_wp2_with fail
  go_region_held3 (fun w' => w'.cell? ⟨w.heap.size, 0, none⟩ = some (.int .i64 x) ∧ w'.cell? ⟨w.heap.size, 1, none⟩ = some (.int .i64 y) ∧ w'.cell? ⟨w.heap.size, 2, none⟩ = some (.int .i64 z) ∧ w'.cell? ⟨B, 0, none⟩ = some (.int .i64 n))
    (first | ((try dsimp only); refine ⟨?_, ?_, ?_, ?_⟩ <;> (go_simp; done)) | go_keep)
    (first | (go_at_call 63; (with_reducible refine (I_overC x n B _ (HB.out _ (by repeat (first | (with_reducible exact Below.refl _ _) | (with_reducible assumption) | ((with_reducible refine Below.alloc ?_ ?_ _); rotate_left; (first | omega | (simp <;> omega))) | ((with_reducible refine Below.setCell ?_ ?_ _); rotate_left; (first | omega | (simp <;> omega))) | (with_reducible refine below_drewN ?_ _) | (with_reducible refine Below.drew ?_) | ((with_reducible refine Below.step (by assumption) ?_ ?_); rotate_left; (first | omega | (simp <;> omega)))))) HX.out).mono ?_); rintro e w' ⟨rfl, rfl⟩) | (go_at_call 63; (with_reducible refine (I_overC y n B _ (HB.out _ (by repeat (first | (with_reducible exact Below.refl _ _) | (with_reducible assumption) | ((with_reducible refine Below.alloc ?_ ?_ _); rotate_left; (first | omega | (simp <;> omega))) | ((with_reducible refine Below.setCell ?_ ?_ _); rotate_left; (first | omega | (simp <;> omega))) | (with_reducible refine below_drewN ?_ _) | (with_reducible refine Below.drew ?_) | ((with_reducible refine Below.step (by assumption) ?_ ?_); rotate_left; (first | omega | (simp <;> omega)))))) HY.out).mono ?_); rintro e w' ⟨rfl, rfl⟩) | (go_at_call 63; (with_reducible refine (I_overC z n B _ (HB.out _ (by repeat (first | (with_reducible exact Below.refl _ _) | (with_reducible assumption) | ((with_reducible refine Below.alloc ?_ ?_ _); rotate_left; (first | omega | (simp <;> omega))) | ((with_reducible refine Below.setCell ?_ ?_ _); rotate_left; (first | omega | (simp <;> omega))) | (with_reducible refine below_drewN ?_ _) | (with_reducible refine Below.drew ?_) | ((with_reducible refine Below.step (by assumption) ?_ ?_); rotate_left; (first | omega | (simp <;> omega)))))) HZ.out).mono ?_); rintro e w' ⟨rfl, rfl⟩) | fail)
  all_goals
    go_wp2
    exact bodyPost_ret (v := vVec (fdivF x n) (fdivF y n) (fdivF z n)) (by simp [results, Try.results62, go_sem, *]) rfl ⟨rfl, (by repeat (first | (with_reducible exact Below.refl _ _) | (with_reducible assumption) | ((with_reducible refine Below.alloc ?_ ?_ _); rotate_left; (first | omega | (simp <;> omega))) | ((with_reducible refine Below.setCell ?_ ?_ _); rotate_left; (first | omega | (simp <;> omega))) | (with_reducible refine below_drewN ?_ _) | (with_reducible refine Below.drew ?_) | ((with_reducible refine Below.step (by assumption) ?_ ?_); rotate_left; (first | omega | (simp <;> omega)))))⟩
set_option maxHeartbeats 2000000 in
theorem I_clamped (x y z : Int) (w : World) :
    Calls Try.prog 58 #[vVec x y z] w fun e w' => e = .returned (vVec (cl x) (cl y) (cl z)) ∧ Below w.heap.size w w' := by
  go_enter Try.func58, Try.ntmps58
  go_wp2_with (first | (go_at_call 62; refine (I_eachClamp _ _ _ _).mono ?_; rintro e w' ⟨rfl, hb⟩; have hz := hb.size; (try simp at hz); have c0 := fun o => hb.cell (p := ⟨w.heap.size, o, none⟩) (by first | omega | (simp <;> omega)); have f0 := fun o => hb.frozen (p := ⟨w.heap.size, o, none⟩) (by first | omega | (simp <;> omega)); have z0 : w.heap.size < w'.heap.size := (by omega); have c1 := fun o => hb.cell (p := ⟨w.heap.size + 1, o, none⟩) (by first | omega | (simp <;> omega)); have f1 := fun o => hb.frozen (p := ⟨w.heap.size + 1, o, none⟩) (by first | omega | (simp <;> omega)); have z1 : w.heap.size + 1 < w'.heap.size := (by omega)) | fail)
  exact bodyPost_ret (v := vVec (cl x) (cl y) (cl z)) (by simp [results, Try.results58, go_sem, *]) rfl ⟨rfl, (by repeat (first | (with_reducible exact Below.refl _ _) | (with_reducible assumption) | ((with_reducible refine Below.alloc ?_ ?_ _); rotate_left; (first | omega | (simp <;> omega))) | ((with_reducible refine Below.setCell ?_ ?_ _); rotate_left; (first | omega | (simp <;> omega))) | (with_reducible refine below_drewN ?_ _) | (with_reducible refine Below.drew ?_) | ((with_reducible refine Below.step (by assumption) ?_ ?_); rotate_left; (first | omega | (simp <;> omega)))))⟩
set_option maxHeartbeats 2000000 in
theorem I_over (x y z n : Int) (w : World) (hx : bigV x y z) :
    Calls Try.prog 32 #[vVec x y z, .int .i64 n] w fun e w' => e = .returned (vVec (fdivF x n) (fdivF y n) (fdivF z n)) ∧ Below w.heap.size w w' := by
  have HX := Lib.hid hx
  clear hx
  go_enter Try.func32, Try.ntmps32
  go_wp2_with fail
  refine (I_eachOver _ _ _ n (w.heap.size + 1) _ (by go_simp) (by simp) HX.out).mono ?_
  rintro e w' ⟨rfl, hb⟩; have hz := hb.size; (try simp at hz); have c0 := fun o => hb.cell (p := ⟨w.heap.size, o, none⟩) (by first | omega | (simp <;> omega)); have f0 := fun o => hb.frozen (p := ⟨w.heap.size, o, none⟩) (by first | omega | (simp <;> omega)); have z0 : w.heap.size < w'.heap.size := (by omega); have c1 := fun o => hb.cell (p := ⟨w.heap.size + 1, o, none⟩) (by first | omega | (simp <;> omega)); have f1 := fun o => hb.frozen (p := ⟨w.heap.size + 1, o, none⟩) (by first | omega | (simp <;> omega)); have z1 : w.heap.size + 1 < w'.heap.size := (by omega); have c2 := fun o => hb.cell (p := ⟨w.heap.size + 1 + 1, o, none⟩) (by first | omega | (simp <;> omega)); have f2 := fun o => hb.frozen (p := ⟨w.heap.size + 1 + 1, o, none⟩) (by first | omega | (simp <;> omega)); have z2 : w.heap.size + 1 + 1 < w'.heap.size := (by omega)
  go_wp2_with fail
  exact bodyPost_ret (v := vVec (fdivF x n) (fdivF y n) (fdivF z n)) (by simp [results, Try.results32, go_sem, *]) rfl ⟨rfl, (by repeat (first | (with_reducible exact Below.refl _ _) | (with_reducible assumption) | ((with_reducible refine Below.alloc ?_ ?_ _); rotate_left; (first | omega | (simp <;> omega))) | ((with_reducible refine Below.setCell ?_ ?_ _); rotate_left; (first | omega | (simp <;> omega))) | (with_reducible refine below_drewN ?_ _) | (with_reducible refine Below.drew ?_) | ((with_reducible refine Below.step (by assumption) ?_ ?_); rotate_left; (first | omega | (simp <;> omega)))))⟩
set_option maxHeartbeats 8000000 in
theorem I_withPlus (x y z p q r : Int) (w : World) (hx : bigV x y z) (hp : bigV p q r) :
    Calls Try.prog 60 #[vVec x y z, vVec p q r, .func (.func 78) #[] #[]] w fun e w' => e = .returned (vVec (x + p) (y + q) (z + r)) ∧ Below w.heap.size w w' := by
  have HX1 := Lib.hid hx.1
  have HX2 := Lib.hid hx.2.1
  have HX3 := Lib.hid hx.2.2
  have HP1 := Lib.hid hp.1
  have HP2 := Lib.hid hp.2.1
  have HP3 := Lib.hid hp.2.2
  clear hx hp
  go_enter Try.func60, Try.ntmps60
  go_wp2_with fail
  go_region_held3 (fun w' => w'.cell? ⟨w.heap.size, 0, none⟩ = some (.int .i64 x) ∧ w'.cell? ⟨w.heap.size, 1, none⟩ = some (.int .i64 y) ∧ w'.cell? ⟨w.heap.size, 2, none⟩ = some (.int .i64 z) ∧ w'.cell? ⟨w.heap.size + 1, 0, none⟩ = some (.int .i64 p) ∧ w'.cell? ⟨w.heap.size + 1, 1, none⟩ = some (.int .i64 q) ∧ w'.cell? ⟨w.heap.size + 1, 2, none⟩ = some (.int .i64 r))
    (first | ((try dsimp only); refine ⟨?_, ?_, ?_, ?_, ?_, ?_⟩ <;> (go_simp; done)) | go_keep)
    (first | (go_at_call 78; (with_reducible refine (I_plusC x p _ HX1.out HP1.out).mono ?_); rintro e w' ⟨rfl, rfl⟩) | (go_at_call 78; (with_reducible refine (I_plusC y q _ HX2.out HP2.out).mono ?_); rintro e w' ⟨rfl, rfl⟩) | (go_at_call 78; (with_reducible refine (I_plusC z r _ HX3.out HP3.out).mono ?_); rintro e w' ⟨rfl, rfl⟩) | fail)
  all_goals
    go_wp2
    exact bodyPost_ret (v := vVec (x + p) (y + q) (z + r)) (by simp [results, Try.results60, go_sem, *]) rfl ⟨rfl, (by repeat (first | (with_reducible exact Below.refl _ _) | (with_reducible assumption) | ((with_reducible refine Below.alloc ?_ ?_ _); rotate_left; (first | omega | (simp <;> omega))) | ((with_reducible refine Below.setCell ?_ ?_ _); rotate_left; (first | omega | (simp <;> omega))) | (with_reducible refine below_drewN ?_ _) | (with_reducible refine Below.drew ?_) | ((with_reducible refine Below.step (by assumption) ?_ ?_); rotate_left; (first | omega | (simp <;> omega)))))⟩
set_option maxHeartbeats 8000000 in
theorem I_withMul (x y z p q r : Int) (w : World) (hx : bigV (x * p) (y * q) (z * r)) :
    Calls Try.prog 60 #[vVec x y z, vVec p q r, .func (.func 61) #[] #[]] w fun e w' => e = .returned (vVec (x * p) (y * q) (z * r)) ∧ Below w.heap.size w w' := by
  have HX1 := Lib.hid hx.1
  have HX2 := Lib.hid hx.2.1
  have HX3 := Lib.hid hx.2.2
  clear hx
  go_enter Try.func60, Try.ntmps60
  go_wp2_with fail
  go_region_held3 (fun w' => w'.cell? ⟨w.heap.size, 0, none⟩ = some (.int .i64 x) ∧ w'.cell? ⟨w.heap.size, 1, none⟩ = some (.int .i64 y) ∧ w'.cell? ⟨w.heap.size, 2, none⟩ = some (.int .i64 z) ∧ w'.cell? ⟨w.heap.size + 1, 0, none⟩ = some (.int .i64 p) ∧ w'.cell? ⟨w.heap.size + 1, 1, none⟩ = some (.int .i64 q) ∧ w'.cell? ⟨w.heap.size + 1, 2, none⟩ = some (.int .i64 r))
    (first | ((try dsimp only); refine ⟨?_, ?_, ?_, ?_, ?_, ?_⟩ <;> (go_simp; done)) | go_keep)
    (first | (go_at_call 61; (with_reducible refine (I_dotC x p _ HX1.out).mono ?_); rintro e w' ⟨rfl, rfl⟩) | (go_at_call 61; (with_reducible refine (I_dotC y q _ HX2.out).mono ?_); rintro e w' ⟨rfl, rfl⟩) | (go_at_call 61; (with_reducible refine (I_dotC z r _ HX3.out).mono ?_); rintro e w' ⟨rfl, rfl⟩) | fail)
  all_goals
    go_wp2
    exact bodyPost_ret (v := vVec (x * p) (y * q) (z * r)) (by simp [results, Try.results60, go_sem, *]) rfl ⟨rfl, (by repeat (first | (with_reducible exact Below.refl _ _) | (with_reducible assumption) | ((with_reducible refine Below.alloc ?_ ?_ _); rotate_left; (first | omega | (simp <;> omega))) | ((with_reducible refine Below.setCell ?_ ?_ _); rotate_left; (first | omega | (simp <;> omega))) | (with_reducible refine below_drewN ?_ _) | (with_reducible refine Below.drew ?_) | ((with_reducible refine Below.step (by assumption) ?_ ?_); rotate_left; (first | omega | (simp <;> omega)))))⟩
set_option maxHeartbeats 2000000 in
theorem I_plus (x y z p q r : Int) (w : World) (hx : bigV x y z) (hp : bigV p q r) :
    Calls Try.prog 59 #[vVec x y z, vVec p q r] w fun e w' => e = .returned (vVec (x + p) (y + q) (z + r)) ∧ Below w.heap.size w w' := by
  have HX := Lib.hid hx
  have HP := Lib.hid hp
  clear hx hp
  go_enter Try.func59, Try.ntmps59
  go_wp2_with (first | (go_at_call 60; refine (I_withPlus _ _ _ _ _ _ _ HX.out HP.out).mono ?_; rintro e w' ⟨rfl, hb⟩; have hz := hb.size; (try simp at hz); have c0 := fun o => hb.cell (p := ⟨w.heap.size, o, none⟩) (by first | omega | (simp <;> omega)); have f0 := fun o => hb.frozen (p := ⟨w.heap.size, o, none⟩) (by first | omega | (simp <;> omega)); have z0 : w.heap.size < w'.heap.size := (by omega); have c1 := fun o => hb.cell (p := ⟨w.heap.size + 1, o, none⟩) (by first | omega | (simp <;> omega)); have f1 := fun o => hb.frozen (p := ⟨w.heap.size + 1, o, none⟩) (by first | omega | (simp <;> omega)); have z1 : w.heap.size + 1 < w'.heap.size := (by omega); have c2 := fun o => hb.cell (p := ⟨w.heap.size + 1 + 1, o, none⟩) (by first | omega | (simp <;> omega)); have f2 := fun o => hb.frozen (p := ⟨w.heap.size + 1 + 1, o, none⟩) (by first | omega | (simp <;> omega)); have z2 : w.heap.size + 1 + 1 < w'.heap.size := (by omega)) | fail)
  exact bodyPost_ret (v := vVec (x + p) (y + q) (z + r)) (by simp [results, Try.results59, go_sem, *]) rfl ⟨rfl, (by repeat (first | (with_reducible exact Below.refl _ _) | (with_reducible assumption) | ((with_reducible refine Below.alloc ?_ ?_ _); rotate_left; (first | omega | (simp <;> omega))) | ((with_reducible refine Below.setCell ?_ ?_ _); rotate_left; (first | omega | (simp <;> omega))) | (with_reducible refine below_drewN ?_ _) | (with_reducible refine Below.drew ?_) | ((with_reducible refine Below.step (by assumption) ?_ ?_); rotate_left; (first | omega | (simp <;> omega)))))⟩
theorem bigV_cl (x y z : Int) : bigV (cl x) (cl y) (cl z) := by
  have h1 := cl_rng x
  have h2 := cl_rng y
  have h3 := cl_rng z
  unfold bigV; omega
theorem prod_abs {a b A B : Int} (ha : -A ≤ a ∧ a ≤ A) (hb : -B ≤ b ∧ b ≤ B) (hA : 0 ≤ A) (hB : 0 ≤ B) : -(A * B) ≤ a * b ∧ a * b ≤ A * B := by
  have h1 : a * b ≤ A * B := by
    rcases Int.lt_or_le a 0 with h | h
    · rcases Int.lt_or_le b 0 with h' | h'
      · have := Int.mul_le_mul (show -a ≤ A by omega) (show -b ≤ B by omega) (by omega) hA
        rw [Int.neg_mul_neg] at this; exact this
      · have h2 := Int.mul_nonneg hA hB
        have h3 : a * b ≤ 0 := Int.mul_nonpos_of_nonpos_of_nonneg (by omega) h'
        omega
    · rcases Int.lt_or_le b 0 with h' | h'
      · have h2 := Int.mul_nonneg hA hB
        have h3 : a * b ≤ 0 := Int.mul_nonpos_of_nonneg_of_nonpos h (by omega)
        omega
      · exact Int.mul_le_mul ha.2 hb.2 h' hA
  have h2 : (-a) * b ≤ A * B := by
    rcases Int.lt_or_le (-a) 0 with h | h
    · rcases Int.lt_or_le b 0 with h' | h'
      · have := Int.mul_le_mul (show a ≤ A by omega) (show -b ≤ B by omega) (by omega) hA
        rw [Int.mul_neg, ← Int.neg_mul] at this; exact this
      · have h2 := Int.mul_nonneg hA hB
        have h3 : (-a) * b ≤ 0 := Int.mul_nonpos_of_nonpos_of_nonneg (by omega) h'
        omega
    · rcases Int.lt_or_le b 0 with h' | h'
      · have h2 := Int.mul_nonneg hA hB
        have h3 : (-a) * b ≤ 0 := Int.mul_nonpos_of_nonneg_of_nonpos h (by omega)
        omega
      · exact Int.mul_le_mul (show -a ≤ A by omega) hb.2 h' hA
  rw [Int.neg_mul] at h2
  omega
end Go.Proofs.Ytaeajeclbcodeaa
