/- Vectors, more: equality, sums and products. -/
import Derived.Test.YtaeajeclbcodeaaVec
import Derived.Laws.StructEq
namespace Go.Proofs.Ytaeajeclbcodeaa
open Go.RowKit
set_option linter.unusedVariables false
set_option maxRecDepth 100000
theorem eqlV (x y z p q r : Int) (w : World) : (binOp .eql 27 (vVec x y z) (vVec p q r)).run Try.prog w = .ok (.bool (decide (x = p) && (decide (y = q) && decide (z = r)))) w := by
  have u3 := Try.underlying3
  have hS : Try.prog.underlying 27 = some (.struct (Try.prog.fieldsOf 27)) := by kernel_rfl
  have hp : Try.prog.stoodInHeld 27 = false := by kernel_rfl
  rw [run_eql_struct, show (10000 : Nat) = 9999 + 1 from rfl, run_equalIn_agg w 9999 27 _ _ hS hp]
  simp only [Program.fieldsOf, Try.underlying27]
  go_simp
  by_cases h1 : x = p <;> by_cases h2 : y = q <;> by_cases h3 : z = r <;> simp [h1, h2, h3]
set_option maxHeartbeats 2000000 in
theorem S_IsValidVec (x y z : Int) (w : World) :
    Calls Try.prog 54 #[vVec x y z] w fun e w' => e = .returned (.bool (validV x y z)) ∧ Below w.heap.size w w' := by
  have heq : ∀ wx : World, (binOp .eql 27 (.agg #[.int .i64 x, .int .i64 y, .int .i64 z]) (.agg #[.int .i64 (cl x), .int .i64 (cl y), .int .i64 (cl z)])).run Try.prog wx = .ok (.bool (validV x y z)) wx := fun wx => eqlV x y z (cl x) (cl y) (cl z) wx
  have hg : Try.prog.eqGuardType Try.prog.depth 27 = false := by kernel_rfl
  go_enter Try.func54, Try.ntmps54
  go_wp2_with fail
  go_region_held3 (fun w' => w'.cell? ⟨w.heap.size, 0, none⟩ = some (.int .i64 x) ∧ w'.cell? ⟨w.heap.size, 1, none⟩ = some (.int .i64 y) ∧ w'.cell? ⟨w.heap.size, 2, none⟩ = some (.int .i64 z))
    (first | ((try dsimp only); refine ⟨?_, ?_, ?_⟩ <;> (go_simp; done)) | go_keep)
    (first | (go_at_call 24; (with_reducible refine (S_l02V _ _ _ _).mono ?_); rintro e w' ⟨rfl, hb⟩; have hz := hb.size; (try simp at hz); have c0 := fun o => hb.cell (p := ⟨w.heap.size, o, none⟩) (by first | omega | (simp <;> omega)); have f0 := fun o => hb.frozen (p := ⟨w.heap.size, o, none⟩) (by first | omega | (simp <;> omega)); have z0 : w.heap.size < w'.heap.size := (by omega)) | fail)
  all_goals
    go_wp2
    go_ret
    exact ⟨rfl, (by repeat (first | (with_reducible exact Below.refl _ _) | (with_reducible assumption) | ((with_reducible refine Below.alloc ?_ ?_ _); rotate_left; (first | omega | (simp <;> omega))) | ((with_reducible refine Below.setCell ?_ ?_ _); rotate_left; (first | omega | (simp <;> omega))) | (with_reducible refine below_drewN ?_ _) | (with_reducible refine Below.drew ?_) | ((with_reducible refine Below.step (by assumption) ?_ ?_); rotate_left; (first | omega | (simp <;> omega)))))⟩
set_option maxHeartbeats 2000000 in
theorem I_IsValidVec (x y z : Int) (w : World) :
    Calls Try.prog 57 #[vVec x y z] w fun e w' => e = .returned (.bool (validV x y z)) ∧ Below w.heap.size w w' := by
  have heq : ∀ wx : World, (binOp .eql 27 (.agg #[.int .i64 x, .int .i64 y, .int .i64 z]) (.agg #[.int .i64 (cl x), .int .i64 (cl y), .int .i64 (cl z)])).run Try.prog wx = .ok (.bool (validV x y z)) wx := fun wx => eqlV x y z (cl x) (cl y) (cl z) wx
  have hg : Try.prog.eqGuardType Try.prog.depth 27 = false := by kernel_rfl
  go_enter Try.func57, Try.ntmps57
  go_wp2_with fail
  go_region_held3 (fun w' => w'.cell? ⟨w.heap.size, 0, none⟩ = some (.int .i64 x) ∧ w'.cell? ⟨w.heap.size, 1, none⟩ = some (.int .i64 y) ∧ w'.cell? ⟨w.heap.size, 2, none⟩ = some (.int .i64 z))
    (first | ((try dsimp only); refine ⟨?_, ?_, ?_⟩ <;> (go_simp; done)) | go_keep)
    (first | (go_at_call 58; (with_reducible refine (I_clamped _ _ _ _).mono ?_); rintro e w' ⟨rfl, hb⟩; have hz := hb.size; (try simp at hz); have c0 := fun o => hb.cell (p := ⟨w.heap.size, o, none⟩) (by first | omega | (simp <;> omega)); have f0 := fun o => hb.frozen (p := ⟨w.heap.size, o, none⟩) (by first | omega | (simp <;> omega)); have z0 : w.heap.size < w'.heap.size := (by omega)) | fail)
  all_goals
    go_wp2
    go_ret
    exact ⟨rfl, (by repeat (first | (with_reducible exact Below.refl _ _) | (with_reducible assumption) | ((with_reducible refine Below.alloc ?_ ?_ _); rotate_left; (first | omega | (simp <;> omega))) | ((with_reducible refine Below.setCell ?_ ?_ _); rotate_left; (first | omega | (simp <;> omega))) | (with_reducible refine below_drewN ?_ _) | (with_reducible refine Below.drew ?_) | ((with_reducible refine Below.step (by assumption) ?_ ?_); rotate_left; (first | omega | (simp <;> omega)))))⟩
def addV (x y z p q r : Int) : Value := vVec (cl (cl x + cl p)) (cl (cl y + cl q)) (cl (cl z + cl r))
set_option maxHeartbeats 4000000 in
theorem S_Add (x y z p q r : Int) (w : World) :
    Calls Try.prog 26 #[vVec x y z, vVec p q r] w fun e w' => e = .returned (addV x y z p q r) ∧ Below w.heap.size w w' := by
  have hx := cl_rng x
  have hy := cl_rng y
  have hz := cl_rng z
  have hp := cl_rng p
  have hq := cl_rng q
  have hr := cl_rng r
  have y1' : IntKind.i64.wrap (cl x + cl p) = cl x + cl p := IntWalk.i64_in _ (by omega)
  have y2' : IntKind.i64.wrap (cl y + cl q) = cl y + cl q := IntWalk.i64_in _ (by omega)
  have y3' : IntKind.i64.wrap (cl z + cl r) = cl z + cl r := IntWalk.i64_in _ (by omega)
  clear hx hy hz hp hq hr
  unfold addV
  go_enter Try.func26, Try.ntmps26
  go_wp2_with fail
  refine (S_l02V _ _ _ _).mono ?_
  rintro e w' ⟨rfl, hb⟩; have hz := hb.size; (try simp at hz); have c0 := fun o => hb.cell (p := ⟨w.heap.size, o, none⟩) (by first | omega | (simp <;> omega)); have f0 := fun o => hb.frozen (p := ⟨w.heap.size, o, none⟩) (by first | omega | (simp <;> omega)); have z0 : w.heap.size < w'.heap.size := (by omega); have c1 := fun o => hb.cell (p := ⟨w.heap.size + 1, o, none⟩) (by first | omega | (simp <;> omega)); have f1 := fun o => hb.frozen (p := ⟨w.heap.size + 1, o, none⟩) (by first | omega | (simp <;> omega)); have z1 : w.heap.size + 1 < w'.heap.size := (by omega); have c2 := fun o => hb.cell (p := ⟨w.heap.size + 1 + 1, o, none⟩) (by first | omega | (simp <;> omega)); have f2 := fun o => hb.frozen (p := ⟨w.heap.size + 1 + 1, o, none⟩) (by first | omega | (simp <;> omega)); have z2 : w.heap.size + 1 + 1 < w'.heap.size := (by omega)
  have n1 : ¬ w.heap.size + 1 = w'.heap.size := by omega
  have n2 : ¬ w.heap.size + 1 + 1 = w'.heap.size := by omega
  obtain ⟨w1, rfl⟩ : ∃ w1, w1 = w' := ⟨_, rfl⟩
  go_wp2_with fail
  refine (S_l02V _ _ _ _).mono ?_
  rintro e w2 ⟨rfl, hb2⟩
  have hz2 := hb2.size
  (try simp at hz2)
  have d1 := fun o => hb2.cell (p := ⟨w1.heap.size, o, none⟩) (by simp)
  have d2 := fun o => hb2.cell (p := ⟨w.heap.size + 1 + 1, o, none⟩) (by simp; omega)
  have d3 := fun o => hb2.frozen (p := ⟨w.heap.size + 1 + 1, o, none⟩) (by simp; omega)
  have n3 : ¬ w.heap.size + 1 + 1 = w2.heap.size := by omega
  have n4 : ¬ w1.heap.size = w2.heap.size := by omega
  have l1 : w1.heap.size < w2.heap.size := by omega
  have l2 : w.heap.size + 1 + 1 < w2.heap.size := by omega
  go_wp2_with fail
  refine (S_l02V _ _ _ _).mono ?_
  rintro e w3 ⟨rfl, hb3⟩
  have hz3 := hb3.size
  (try simp at hz3)
  have k2 := fun o => hb3.cell (p := ⟨w.heap.size + 1 + 1, o, none⟩) (by simp; omega)
  have k3 := fun o => hb3.frozen (p := ⟨w.heap.size + 1 + 1, o, none⟩) (by simp; omega)
  have l3 : w.heap.size + 1 + 1 < w3.heap.size := by omega
  go_wp2
  exact bodyPost_ret (v := vVec (cl (cl x + cl p)) (cl (cl y + cl q)) (cl (cl z + cl r))) (by simp [results, Try.results26, go_sem, *]) rfl ⟨rfl, (by repeat (first | (with_reducible exact Below.refl _ _) | (with_reducible assumption) | ((with_reducible refine Below.alloc ?_ ?_ _); rotate_left; (first | omega | (simp <;> omega))) | ((with_reducible refine Below.setCell ?_ ?_ _); rotate_left; (first | omega | (simp <;> omega))) | (with_reducible refine below_drewN ?_ _) | (with_reducible refine Below.drew ?_) | ((with_reducible refine Below.step (by assumption) ?_ ?_); rotate_left; (first | omega | (simp <;> omega)))))⟩
set_option maxHeartbeats 8000000 in
theorem I_Add (x y z p q r : Int) (w : World) :
    Calls Try.prog 29 #[vVec x y z, vVec p q r] w fun e w' => e = .returned (addV x y z p q r) ∧ Below w.heap.size w w' := by
  have H1 := Lib.hid (bigV_cl x y z)
  have H2 := Lib.hid (bigV_cl p q r)
  unfold addV
  go_enter Try.func29, Try.ntmps29
  go_wp2_with fail
  go_region_held3 (fun w' => w'.cell? ⟨w.heap.size, 0, none⟩ = some (.int .i64 x) ∧ w'.cell? ⟨w.heap.size, 1, none⟩ = some (.int .i64 y) ∧ w'.cell? ⟨w.heap.size, 2, none⟩ = some (.int .i64 z) ∧ w'.cell? ⟨w.heap.size + 1, 0, none⟩ = some (.int .i64 p) ∧ w'.cell? ⟨w.heap.size + 1, 1, none⟩ = some (.int .i64 q) ∧ w'.cell? ⟨w.heap.size + 1, 2, none⟩ = some (.int .i64 r))
    (first | ((try dsimp only); refine ⟨?_, ?_, ?_, ?_, ?_, ?_⟩ <;> (go_simp; done)) | go_keep)
    (first | (go_at_call 58; (with_reducible refine (I_clamped x y z _).mono ?_); rintro e w' ⟨rfl, hb⟩; have hz := hb.size; (try simp at hz); have c0 := fun o => hb.cell (p := ⟨w.heap.size, o, none⟩) (by first | omega | (simp <;> omega)); have f0 := fun o => hb.frozen (p := ⟨w.heap.size, o, none⟩) (by first | omega | (simp <;> omega)); have z0 : w.heap.size < w'.heap.size := (by omega); have c1 := fun o => hb.cell (p := ⟨w.heap.size + 1, o, none⟩) (by first | omega | (simp <;> omega)); have f1 := fun o => hb.frozen (p := ⟨w.heap.size + 1, o, none⟩) (by first | omega | (simp <;> omega)); have z1 : w.heap.size + 1 < w'.heap.size := (by omega); have c2 := fun o => hb.cell (p := ⟨w.heap.size + 1 + 1, o, none⟩) (by first | omega | (simp <;> omega)); have f2 := fun o => hb.frozen (p := ⟨w.heap.size + 1 + 1, o, none⟩) (by first | omega | (simp <;> omega)); have z2 : w.heap.size + 1 + 1 < w'.heap.size := (by omega)) | (go_at_call 58; (with_reducible refine (I_clamped p q r _).mono ?_); rintro e w' ⟨rfl, hb⟩; have hz := hb.size; (try simp at hz); have c0 := fun o => hb.cell (p := ⟨w.heap.size, o, none⟩) (by first | omega | (simp <;> omega)); have f0 := fun o => hb.frozen (p := ⟨w.heap.size, o, none⟩) (by first | omega | (simp <;> omega)); have z0 : w.heap.size < w'.heap.size := (by omega); have c1 := fun o => hb.cell (p := ⟨w.heap.size + 1, o, none⟩) (by first | omega | (simp <;> omega)); have f1 := fun o => hb.frozen (p := ⟨w.heap.size + 1, o, none⟩) (by first | omega | (simp <;> omega)); have z1 : w.heap.size + 1 < w'.heap.size := (by omega); have c2 := fun o => hb.cell (p := ⟨w.heap.size + 1 + 1, o, none⟩) (by first | omega | (simp <;> omega)); have f2 := fun o => hb.frozen (p := ⟨w.heap.size + 1 + 1, o, none⟩) (by first | omega | (simp <;> omega)); have z2 : w.heap.size + 1 + 1 < w'.heap.size := (by omega)) | (go_at_call 58; (with_reducible refine (I_clamped (cl x + cl p) (cl y + cl q) (cl z + cl r) _).mono ?_); rintro e w' ⟨rfl, hb⟩; have hz := hb.size; (try simp at hz); have c0 := fun o => hb.cell (p := ⟨w.heap.size, o, none⟩) (by first | omega | (simp <;> omega)); have f0 := fun o => hb.frozen (p := ⟨w.heap.size, o, none⟩) (by first | omega | (simp <;> omega)); have z0 : w.heap.size < w'.heap.size := (by omega); have c1 := fun o => hb.cell (p := ⟨w.heap.size + 1, o, none⟩) (by first | omega | (simp <;> omega)); have f1 := fun o => hb.frozen (p := ⟨w.heap.size + 1, o, none⟩) (by first | omega | (simp <;> omega)); have z1 : w.heap.size + 1 < w'.heap.size := (by omega); have c2 := fun o => hb.cell (p := ⟨w.heap.size + 1 + 1, o, none⟩) (by first | omega | (simp <;> omega)); have f2 := fun o => hb.frozen (p := ⟨w.heap.size + 1 + 1, o, none⟩) (by first | omega | (simp <;> omega)); have z2 : w.heap.size + 1 + 1 < w'.heap.size := (by omega)) | (go_at_call 59; (with_reducible refine (I_plus _ _ _ _ _ _ _ H1.out H2.out).mono ?_); rintro e w' ⟨rfl, hb⟩; have hz := hb.size; (try simp at hz); have c0 := fun o => hb.cell (p := ⟨w.heap.size, o, none⟩) (by first | omega | (simp <;> omega)); have f0 := fun o => hb.frozen (p := ⟨w.heap.size, o, none⟩) (by first | omega | (simp <;> omega)); have z0 : w.heap.size < w'.heap.size := (by omega); have c1 := fun o => hb.cell (p := ⟨w.heap.size + 1, o, none⟩) (by first | omega | (simp <;> omega)); have f1 := fun o => hb.frozen (p := ⟨w.heap.size + 1, o, none⟩) (by first | omega | (simp <;> omega)); have z1 : w.heap.size + 1 < w'.heap.size := (by omega); have c2 := fun o => hb.cell (p := ⟨w.heap.size + 1 + 1, o, none⟩) (by first | omega | (simp <;> omega)); have f2 := fun o => hb.frozen (p := ⟨w.heap.size + 1 + 1, o, none⟩) (by first | omega | (simp <;> omega)); have z2 : w.heap.size + 1 + 1 < w'.heap.size := (by omega)) | fail)
  all_goals
    go_wp2
    exact bodyPost_ret (v := vVec (cl (cl x + cl p)) (cl (cl y + cl q)) (cl (cl z + cl r))) (by simp [results, Try.results29, go_sem, *]) rfl ⟨rfl, (by repeat (first | (with_reducible exact Below.refl _ _) | (with_reducible assumption) | ((with_reducible refine Below.alloc ?_ ?_ _); rotate_left; (first | omega | (simp <;> omega))) | ((with_reducible refine Below.setCell ?_ ?_ _); rotate_left; (first | omega | (simp <;> omega))) | (with_reducible refine below_drewN ?_ _) | (with_reducible refine Below.drew ?_) | ((with_reducible refine Below.step (by assumption) ?_ ?_); rotate_left; (first | omega | (simp <;> omega)))))⟩
def dotF (x y z p q r : Int) : Int := cl x * cl p + cl y * cl q + cl z * cl r
theorem cl_prod (x p : Int) : -1000000000000 ≤ cl x * cl p ∧ cl x * cl p ≤ 1000000000000 := prod_abs (A := 1000000) (B := 1000000) (cl_rng x) (cl_rng p) (by omega) (by omega)
set_option maxHeartbeats 8000000 in
theorem I_Dot (x y z p q r : Int) (w : World) :
    Calls Try.prog 30 #[vVec x y z, vVec p q r] w fun e w' => e = .returned (.int .i64 (dotF x y z p q r)) ∧ Below w.heap.size w w' := by
  have hx := cl_prod x p
  have hy := cl_prod y q
  have hz := cl_prod z r
  have HB := Lib.hid (show bigV (cl x * cl p) (cl y * cl q) (cl z * cl r) by unfold bigV; omega)
  unfold dotF
  generalize hX : cl x * cl p = X at *
  generalize hY : cl y * cl q = Y at *
  generalize hZ : cl z * cl r = Z at *
  have y1' : IntKind.i64.wrap (X + Y) = X + Y := IntWalk.i64_in _ (by omega)
  have y2' : IntKind.i64.wrap (X + Y + Z) = X + Y + Z := IntWalk.i64_in _ (by omega)
  have HM : Hid (∀ wx, Calls Try.prog 60 #[vVec (cl x) (cl y) (cl z), vVec (cl p) (cl q) (cl r), .func (.func 61) #[] #[]] wx fun e w' => e = .returned (vVec X Y Z) ∧ Below wx.heap.size wx w') := fun wx => by
    have := I_withMul (cl x) (cl y) (cl z) (cl p) (cl q) (cl r) wx (by rw [hX, hY, hZ]; exact HB.out)
    rw [hX, hY, hZ] at this
    exact this
  clear hX hY hZ hx hy hz
  go_enter Try.func30, Try.ntmps30
  go_wp2_with fail
  go_region_held3 (fun w' => w'.cell? ⟨w.heap.size, 0, none⟩ = some (.int .i64 x) ∧ w'.cell? ⟨w.heap.size, 1, none⟩ = some (.int .i64 y) ∧ w'.cell? ⟨w.heap.size, 2, none⟩ = some (.int .i64 z) ∧ w'.cell? ⟨w.heap.size + 1, 0, none⟩ = some (.int .i64 p) ∧ w'.cell? ⟨w.heap.size + 1, 1, none⟩ = some (.int .i64 q) ∧ w'.cell? ⟨w.heap.size + 1, 2, none⟩ = some (.int .i64 r))
    (first | ((try dsimp only); refine ⟨?_, ?_, ?_, ?_, ?_, ?_⟩ <;> (go_simp; done)) | go_keep)
    (first | (go_at_call 58; (with_reducible refine (I_clamped x y z _).mono ?_); rintro e w' ⟨rfl, hb⟩; have hz := hb.size; (try simp at hz); have c0 := fun o => hb.cell (p := ⟨w.heap.size, o, none⟩) (by first | omega | (simp <;> omega)); have f0 := fun o => hb.frozen (p := ⟨w.heap.size, o, none⟩) (by first | omega | (simp <;> omega)); have z0 : w.heap.size < w'.heap.size := (by omega); have c1 := fun o => hb.cell (p := ⟨w.heap.size + 1, o, none⟩) (by first | omega | (simp <;> omega)); have f1 := fun o => hb.frozen (p := ⟨w.heap.size + 1, o, none⟩) (by first | omega | (simp <;> omega)); have z1 : w.heap.size + 1 < w'.heap.size := (by omega); have na : ¬ w.heap.size = w'.heap.size := (by omega); have nb : ¬ w.heap.size + 1 = w'.heap.size := (by omega); (try (refine with_box hb (w.heap.size + 1 + 1) ?_ ?_; (first | omega | (simp <;> omega)); intro n0 nf0 nz0)); obtain ⟨wA, rfl⟩ : ∃ wA, wA = w' := ⟨_, rfl⟩) | (go_at_call 58; (with_reducible refine (I_clamped p q r _).mono ?_); rintro e w' ⟨rfl, hb⟩; have hz := hb.size; (try simp at hz); have c0 := fun o => hb.cell (p := ⟨w.heap.size, o, none⟩) (by first | omega | (simp <;> omega)); have f0 := fun o => hb.frozen (p := ⟨w.heap.size, o, none⟩) (by first | omega | (simp <;> omega)); have z0 : w.heap.size < w'.heap.size := (by omega); have c1 := fun o => hb.cell (p := ⟨w.heap.size + 1, o, none⟩) (by first | omega | (simp <;> omega)); have f1 := fun o => hb.frozen (p := ⟨w.heap.size + 1, o, none⟩) (by first | omega | (simp <;> omega)); have z1 : w.heap.size + 1 < w'.heap.size := (by omega); have na : ¬ w.heap.size = w'.heap.size := (by omega); have nb : ¬ w.heap.size + 1 = w'.heap.size := (by omega); (try (refine with_box hb (w.heap.size + 1 + 1) ?_ ?_; (first | omega | (simp <;> omega)); intro n0 nf0 nz0)); (try (refine with_box hb (wA.heap.size) ?_ ?_; (first | omega | (simp <;> omega)); intro n1 nf1 nz1)); obtain ⟨wB, rfl⟩ : ∃ wB, wB = w' := ⟨_, rfl⟩) | (go_at_call 60; (with_reducible refine (HM.out _).mono ?_); rintro e w' ⟨rfl, hb⟩; have hz := hb.size; (try simp at hz); have c0 := fun o => hb.cell (p := ⟨w.heap.size, o, none⟩) (by first | omega | (simp <;> omega)); have f0 := fun o => hb.frozen (p := ⟨w.heap.size, o, none⟩) (by first | omega | (simp <;> omega)); have z0 : w.heap.size < w'.heap.size := (by omega); have c1 := fun o => hb.cell (p := ⟨w.heap.size + 1, o, none⟩) (by first | omega | (simp <;> omega)); have f1 := fun o => hb.frozen (p := ⟨w.heap.size + 1, o, none⟩) (by first | omega | (simp <;> omega)); have z1 : w.heap.size + 1 < w'.heap.size := (by omega); have na : ¬ w.heap.size = w'.heap.size := (by omega); have nb : ¬ w.heap.size + 1 = w'.heap.size := (by omega); (try (refine with_box hb (w.heap.size + 1 + 1) ?_ ?_; (first | omega | (simp <;> omega)); intro n0 nf0 nz0)); (try (refine with_box hb (wA.heap.size) ?_ ?_; (first | omega | (simp <;> omega)); intro n1 nf1 nz1)); (try (refine with_box hb (wB.heap.size) ?_ ?_; (first | omega | (simp <;> omega)); intro n2 nf2 nz2))) | fail)
  all_goals
    go_wp2
    go_ret
    exact ⟨rfl, (by repeat (first | (with_reducible exact Below.refl _ _) | (with_reducible assumption) | ((with_reducible refine Below.alloc ?_ ?_ _); rotate_left; (first | omega | (simp <;> omega))) | ((with_reducible refine Below.setCell ?_ ?_ _); rotate_left; (first | omega | (simp <;> omega))) | (with_reducible refine below_drewN ?_ _) | (with_reducible refine Below.drew ?_) | ((with_reducible refine Below.step (by assumption) ?_ ?_); rotate_left; (first | omega | (simp <;> omega)))))⟩
end Go.Proofs.Ytaeajeclbcodeaa
