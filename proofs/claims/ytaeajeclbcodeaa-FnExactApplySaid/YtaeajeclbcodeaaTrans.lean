/- MADE BY PROGRAM (genvec.py). Transforms; Apply of the reference and of the program. -/
import Derived.Test.YtaeajeclbcodeaaVecB
import Derived.Test.YtaeajeclbcodeaaWithin
import Derived.Deep.DeepCutAuto
namespace Go.Proofs.Ytaeajeclbcodeaa
open Go.RowKit
set_option linter.unusedVariables false
set_option maxRecDepth 100000
abbrev vTr (m0 m1 m2 m3 m4 m5 m6 m7 m8 a b c : Int) : Value := .agg #[.int .i64 m0, .int .i64 m1, .int .i64 m2, .int .i64 m3, .int .i64 m4, .int .i64 m5, .int .i64 m6, .int .i64 m7, .int .i64 m8, .int .i64 a, .int .i64 b, .int .i64 c]
def okT (m0 m1 m2 m3 m4 m5 m6 m7 m8 a b c : Int) : Bool := allIn [m0, m1, m2, m3, m4, m5, m6, m7, m8] (-64) 64 && validV a b c
theorem wl (n : Int) (h : 0 ≤ n ∧ n ≤ 100) : IntKind.i64.wrap n = n := IntWalk.i64_in _ (by omega)
theorem okT_true {m0 m1 m2 m3 m4 m5 m6 m7 m8 a b c : Int} (h : okT m0 m1 m2 m3 m4 m5 m6 m7 m8 a b c = true) : allIn [m0, m1, m2, m3, m4, m5, m6, m7, m8] (-64) 64 = true ∧ validV a b c = true := by
  unfold okT at h; simpa using h
def lin (p q r x y z : Int) : Int := p * cl x + q * cl y + r * cl z
theorem lin_abs {p q r : Int} (x y z : Int) (hp : -64 ≤ p ∧ p ≤ 64) (hq : -64 ≤ q ∧ q ≤ 64) (hr : -64 ≤ r ∧ r ≤ 64) : (-64000000 ≤ p * cl x ∧ p * cl x ≤ 64000000) ∧ (-64000000 ≤ q * cl y ∧ q * cl y ≤ 64000000) ∧ (-64000000 ≤ r * cl z ∧ r * cl z ≤ 64000000) :=
  ⟨prod_abs (A := 64) (B := 1000000) hp (cl_rng x) (by omega) (by omega), prod_abs (A := 64) (B := 1000000) hq (cl_rng y) (by omega) (by omega), prod_abs (A := 64) (B := 1000000) hr (cl_rng z) (by omega) (by omega)⟩
theorem dot_lin {p q r : Int} (x y z : Int) (hp : -64 ≤ p ∧ p ≤ 64) (hq : -64 ≤ q ∧ q ≤ 64) (hr : -64 ≤ r ∧ r ≤ 64) : dotF p q r x y z = lin p q r x y z := by
  unfold dotF lin
  rw [cl_id (n := p) (by omega), cl_id (n := q) (by omega), cl_id (n := r) (by omega)]
theorem S_AddV (x y z p q r : Int) (w : World) : Calls Try.prog 26 #[vVec x y z, vVec p q r] w fun e w' => e = .returned (vVec (cl (cl x + cl p)) (cl (cl y + cl q)) (cl (cl z + cl r))) ∧ Below w.heap.size w w' := S_Add x y z p q r w
theorem I_AddV (x y z p q r : Int) (w : World) : Calls Try.prog 29 #[vVec x y z, vVec p q r] w fun e w' => e = .returned (vVec (cl (cl x + cl p)) (cl (cl y + cl q)) (cl (cl z + cl r))) ∧ Below w.heap.size w w' := I_Add x y z p q r w
theorem allIn_atT {l : List Int} {k : Nat} {lo hi : Int} (hk : k < l.length) (h : inB l[k] lo hi = false) : allIn l lo hi = false := by
  unfold allIn; rw [List.all_eq_false]; exact ⟨_, List.getElem_mem hk, by simp [h]⟩
theorem Box.far {w : World} {b : Nat} {cs : List Value} (h : Box w b cs) {p : Addr} (hp : b ≠ p.block) (u : Value) : Box (w.setCell p u) b cs := ⟨by simpa [World.setCell] using h.1, CellsAt.same (fun o => World.cell?_setCell_other (h := fun e => hp (congrArg Addr.block e).symm) ..) 0 cs h.2⟩
theorem Box.drew {w : World} {b : Nat} {cs : List Value} (h : Box w b cs) : Box w.drew b cs := ⟨h.1, CellsAt.same (w := w) (w' := w.drew) (fun _ => rfl) 0 cs h.2⟩
theorem Box.drewN {w : World} {b : Nat} {cs : List Value} (h : Box w b cs) (n : Nat) : Box (w.drewN n) b cs := ⟨h.1, CellsAt.same (w := w) (w' := w.drewN n) (fun _ => rfl) 0 cs h.2⟩
def part (p q r x y z : Int) : Int := fdivF (lin p q r x y z) 16
def applyV (m0 m1 m2 m3 m4 m5 m6 m7 m8 a b c x y z : Int) : Value := if okT m0 m1 m2 m3 m4 m5 m6 m7 m8 a b c then addV (part m0 m1 m2 x y z) (part m3 m4 m5 x y z) (part m6 m7 m8 x y z) a b c else vVec x y z
theorem nine_rng {m0 m1 m2 m3 m4 m5 m6 m7 m8 : Int} (h : allIn [m0, m1, m2, m3, m4, m5, m6, m7, m8] (-64) 64 = true) : (-64 ≤ m0 ∧ m0 ≤ 64) ∧ (-64 ≤ m1 ∧ m1 ≤ 64) ∧ (-64 ≤ m2 ∧ m2 ≤ 64) ∧ (-64 ≤ m3 ∧ m3 ≤ 64) ∧ (-64 ≤ m4 ∧ m4 ≤ 64) ∧ (-64 ≤ m5 ∧ m5 ≤ 64) ∧ (-64 ≤ m6 ∧ m6 ≤ 64) ∧ (-64 ≤ m7 ∧ m7 ≤ 64) ∧ (-64 ≤ m8 ∧ m8 ≤ 64) := by
  simp only [allIn, List.all_cons, List.all_nil, Bool.and_true, Bool.and_eq_true] at h
  obtain ⟨hm0, hm1, hm2, hm3, hm4, hm5, hm6, hm7, hm8⟩ := h
  exact ⟨inB_true hm0, inB_true hm1, inB_true hm2, inB_true hm3, inB_true hm4, inB_true hm5, inB_true hm6, inB_true hm7, inB_true hm8⟩
set_option maxHeartbeats 4000000 in
theorem I_row0 (m0 m1 m2 m3 m4 m5 m6 m7 m8 a b c : Int) (w : World) :
    Calls Try.prog 31 #[vTr m0 m1 m2 m3 m4 m5 m6 m7 m8 a b c, .int .i64 0] w fun e w' => e = .returned (vVec m0 m1 m2) ∧ Below w.heap.size w w' := by
  have wl0 := wl 0 (by omega)
  have wl1 := wl 1 (by omega)
  have wl2 := wl 2 (by omega)
  have wl3 := wl 3 (by omega)
  have wl4 := wl 4 (by omega)
  have wl5 := wl 5 (by omega)
  have wl6 := wl 6 (by omega)
  have wl7 := wl 7 (by omega)
  have wl8 := wl 8 (by omega)
  go_enter Try.func31, Try.ntmps31
  go_wp2_with fail
  go_region_held3 (fun w' => w'.cell? ⟨w.heap.size, 0, none⟩ = some (.int .i64 m0) ∧ w'.cell? ⟨w.heap.size, 1, none⟩ = some (.int .i64 m1) ∧ w'.cell? ⟨w.heap.size, 2, none⟩ = some (.int .i64 m2))
    (first | ((try dsimp only); refine ⟨?_, ?_, ?_⟩ <;> (go_simp; done)) | go_keep)
    (fail)
  all_goals
    go_wp2
    exact bodyPost_ret (v := vVec m0 m1 m2) (by simp [results, Try.results31, go_sem, *]) rfl ⟨rfl, (by repeat (first | (with_reducible exact Below.refl _ _) | (with_reducible assumption) | ((with_reducible refine Below.alloc ?_ ?_ _); rotate_left; (first | omega | (simp <;> omega))) | ((with_reducible refine Below.setCell ?_ ?_ _); rotate_left; (first | omega | (simp <;> omega))) | (with_reducible refine below_drewN ?_ _) | (with_reducible refine Below.drew ?_) | ((with_reducible refine Below.step (by assumption) ?_ ?_); rotate_left; (first | omega | (simp <;> omega)))))⟩
set_option maxHeartbeats 4000000 in
theorem I_row1 (m0 m1 m2 m3 m4 m5 m6 m7 m8 a b c : Int) (w : World) :
    Calls Try.prog 31 #[vTr m0 m1 m2 m3 m4 m5 m6 m7 m8 a b c, .int .i64 1] w fun e w' => e = .returned (vVec m3 m4 m5) ∧ Below w.heap.size w w' := by
  have wl0 := wl 0 (by omega)
  have wl1 := wl 1 (by omega)
  have wl2 := wl 2 (by omega)
  have wl3 := wl 3 (by omega)
  have wl4 := wl 4 (by omega)
  have wl5 := wl 5 (by omega)
  have wl6 := wl 6 (by omega)
  have wl7 := wl 7 (by omega)
  have wl8 := wl 8 (by omega)
  go_enter Try.func31, Try.ntmps31
  go_wp2_with fail
  go_region_held3 (fun w' => w'.cell? ⟨w.heap.size, 3, none⟩ = some (.int .i64 m3) ∧ w'.cell? ⟨w.heap.size, 4, none⟩ = some (.int .i64 m4) ∧ w'.cell? ⟨w.heap.size, 5, none⟩ = some (.int .i64 m5))
    (first | ((try dsimp only); refine ⟨?_, ?_, ?_⟩ <;> (go_simp; done)) | go_keep)
    (fail)
  all_goals
    go_wp2
    exact bodyPost_ret (v := vVec m3 m4 m5) (by simp [results, Try.results31, go_sem, *]) rfl ⟨rfl, (by repeat (first | (with_reducible exact Below.refl _ _) | (with_reducible assumption) | ((with_reducible refine Below.alloc ?_ ?_ _); rotate_left; (first | omega | (simp <;> omega))) | ((with_reducible refine Below.setCell ?_ ?_ _); rotate_left; (first | omega | (simp <;> omega))) | (with_reducible refine below_drewN ?_ _) | (with_reducible refine Below.drew ?_) | ((with_reducible refine Below.step (by assumption) ?_ ?_); rotate_left; (first | omega | (simp <;> omega)))))⟩
set_option maxHeartbeats 4000000 in
theorem I_row2 (m0 m1 m2 m3 m4 m5 m6 m7 m8 a b c : Int) (w : World) :
    Calls Try.prog 31 #[vTr m0 m1 m2 m3 m4 m5 m6 m7 m8 a b c, .int .i64 2] w fun e w' => e = .returned (vVec m6 m7 m8) ∧ Below w.heap.size w w' := by
  have wl0 := wl 0 (by omega)
  have wl1 := wl 1 (by omega)
  have wl2 := wl 2 (by omega)
  have wl3 := wl 3 (by omega)
  have wl4 := wl 4 (by omega)
  have wl5 := wl 5 (by omega)
  have wl6 := wl 6 (by omega)
  have wl7 := wl 7 (by omega)
  have wl8 := wl 8 (by omega)
  go_enter Try.func31, Try.ntmps31
  go_wp2_with fail
  go_region_held3 (fun w' => w'.cell? ⟨w.heap.size, 6, none⟩ = some (.int .i64 m6) ∧ w'.cell? ⟨w.heap.size, 7, none⟩ = some (.int .i64 m7) ∧ w'.cell? ⟨w.heap.size, 8, none⟩ = some (.int .i64 m8))
    (first | ((try dsimp only); refine ⟨?_, ?_, ?_⟩ <;> (go_simp; done)) | go_keep)
    (fail)
  all_goals
    go_wp2
    exact bodyPost_ret (v := vVec m6 m7 m8) (by simp [results, Try.results31, go_sem, *]) rfl ⟨rfl, (by repeat (first | (with_reducible exact Below.refl _ _) | (with_reducible assumption) | ((with_reducible refine Below.alloc ?_ ?_ _); rotate_left; (first | omega | (simp <;> omega))) | ((with_reducible refine Below.setCell ?_ ?_ _); rotate_left; (first | omega | (simp <;> omega))) | (with_reducible refine below_drewN ?_ _) | (with_reducible refine Below.drew ?_) | ((with_reducible refine Below.step (by assumption) ?_ ?_); rotate_left; (first | omega | (simp <;> omega)))))⟩
theorem box_rs {w : World} {B : Nat} {ms : List Int} (hB : B < w.heap.size) (hl : ms.length ≤ 1000) (h : ∀ j, j < ms.length → w.cell? ⟨B, j, none⟩ = (ints ms)[j]?) : RS w 1 (some ⟨B, 0, none⟩) ms.length ms.length (ints ms) := by
  refine ⟨by simp [ints], some ⟨B, 0, none⟩, ms.length, rfl, Nat.le_refl _, by unfold maxLen; omega, fun _ => ⟨B, 0, rfl, Nat.zero_le _, hB, fun j hj => ?_⟩⟩
  rw [Nat.zero_add]
  exact h j (by omega)
set_option maxHeartbeats 4000000 in
theorem I_IsValidTransform (m0 m1 m2 m3 m4 m5 m6 m7 m8 a b c : Int) (w : World) :
    Calls Try.prog 28 #[vTr m0 m1 m2 m3 m4 m5 m6 m7 m8 a b c] w fun e w' => e = .returned (.bool (okT m0 m1 m2 m3 m4 m5 m6 m7 m8 a b c)) ∧ Below w.heap.size w w' := by
  have HR : Hid (RS (w.alloc (.cells #[.int .i64 m0, .int .i64 m1, .int .i64 m2, .int .i64 m3, .int .i64 m4, .int .i64 m5, .int .i64 m6, .int .i64 m7, .int .i64 m8, .int .i64 a, .int .i64 b, .int .i64 c] 30)) 1 (some ⟨w.heap.size, 0, none⟩) 9 9 (ints [m0, m1, m2, m3, m4, m5, m6, m7, m8])) := Lib.hid (box_rs (ms := [m0, m1, m2, m3, m4, m5, m6, m7, m8]) (by simp) (by simp) (fun j hj => by
    have ho := (Own.new w 30 #[.int .i64 m0, .int .i64 m1, .int .i64 m2, .int .i64 m3, .int .i64 m4, .int .i64 m5, .int .i64 m6, .int .i64 m7, .int .i64 m8, .int .i64 a, .int .i64 b, .int .i64 c]).cell j
    rw [ho]
    rcases j with _ | _ | _ | _ | _ | _ | _ | _ | _ | j
    all_goals (first | rfl | (simp at hj; omega))))
  unfold okT
  cases hA : allIn [m0, m1, m2, m3, m4, m5, m6, m7, m8] (-64) 64
  all_goals
    go_enter Try.func28, Try.ntmps28
    go_wp2_with (first | (go_at_call 56; refine (I_allWithin _ 9 [m0, m1, m2, m3, m4, m5, m6, m7, m8] (-64) 64 _ HR.out).mono ?_; rw [hA]; rintro e w' ⟨rfl, rfl⟩) | (go_at_call 57; refine (I_IsValidVec _ _ _ _).mono ?_; rintro e w' ⟨rfl, hb⟩; have hz := hb.size; (try simp at hz); have c0 := fun o => hb.cell (p := ⟨w.heap.size, o, none⟩) (by first | omega | (simp <;> omega)); have f0 := fun o => hb.frozen (p := ⟨w.heap.size, o, none⟩) (by first | omega | (simp <;> omega)); have z0 : w.heap.size < w'.heap.size := (by omega)) | fail)
    go_ret
    exact ⟨ret_bool (by simp), (by repeat (first | (with_reducible exact Below.refl _ _) | (with_reducible assumption) | ((with_reducible refine Below.alloc ?_ ?_ _); rotate_left; (first | omega | (simp <;> omega))) | ((with_reducible refine Below.setCell ?_ ?_ _); rotate_left; (first | omega | (simp <;> omega))) | (with_reducible refine below_drewN ?_ _) | (with_reducible refine Below.drew ?_) | ((with_reducible refine Below.step (by assumption) ?_ ?_); rotate_left; (first | omega | (simp <;> omega)))))⟩
set_option maxHeartbeats 16000000 in
theorem S_IsValidTransform (m0 m1 m2 m3 m4 m5 m6 m7 m8 a b c : Int) (w : World) :
    Calls Try.prog 23 #[vTr m0 m1 m2 m3 m4 m5 m6 m7 m8 a b c] w fun e w' => e = .returned (.bool (okT m0 m1 m2 m3 m4 m5 m6 m7 m8 a b c)) ∧ Below w.heap.size w w' := by
  have HE : Hid (okT m0 m1 m2 m3 m4 m5 m6 m7 m8 a b c = (allIn [m0, m1, m2, m3, m4, m5, m6, m7, m8] (-64) 64 && validV a b c)) := rfl
  generalize okT m0 m1 m2 m3 m4 m5 m6 m7 m8 a b c = R at *
  have HX : Hid (Box (w.alloc (.cells #[.int .i64 m0, .int .i64 m1, .int .i64 m2, .int .i64 m3, .int .i64 m4, .int .i64 m5, .int .i64 m6, .int .i64 m7, .int .i64 m8, .int .i64 a, .int .i64 b, .int .i64 c] 30)) w.heap.size [.int .i64 m0, .int .i64 m1, .int .i64 m2, .int .i64 m3, .int .i64 m4, .int .i64 m5, .int .i64 m6, .int .i64 m7, .int .i64 m8, .int .i64 a, .int .i64 b, .int .i64 c]) := Lib.hid (Box.of_own (Own.new w 30 #[_, _, _, _, _, _, _, _, _, _, _, _]))
  have HB : Hid (Below w.heap.size w (w.alloc (.cells #[.int .i64 m0, .int .i64 m1, .int .i64 m2, .int .i64 m3, .int .i64 m4, .int .i64 m5, .int .i64 m6, .int .i64 m7, .int .i64 m8, .int .i64 a, .int .i64 b, .int .i64 c] 30))) := Lib.hid (by repeat (first | (with_reducible exact Below.refl _ _) | (with_reducible assumption) | ((with_reducible refine Below.alloc ?_ ?_ _); rotate_left; (first | omega | (simp <;> omega))) | ((with_reducible refine Below.setCell ?_ ?_ _); rotate_left; (first | omega | (simp <;> omega))) | (with_reducible refine below_drewN ?_ _) | (with_reducible refine Below.drew ?_) | ((with_reducible refine Below.step (by assumption) ?_ ?_); rotate_left; (first | omega | (simp <;> omega)))))
  go_enter Try.func23, Try.ntmps23
  go_wp2_with fail
  go_loopw [4, 7] (fun _ p wr => ∃ k : Nat, k ≤ 9 ∧ p = .int .i64 k ∧ allIn ([m0, m1, m2, m3, m4, m5, m6, m7, m8].take k) (-64) 64 = true ∧ Box wr w.heap.size [.int .i64 m0, .int .i64 m1, .int .i64 m2, .int .i64 m3, .int .i64 m4, .int .i64 m5, .int .i64 m6, .int .i64 m7, .int .i64 m8, .int .i64 a, .int .i64 b, .int .i64 c] ∧ Below w.heap.size w wr) (fun _ p _ => 9 - (intOf p).toNat)
  case atStart => exact ⟨0, by omega, rfl, rfl, HX.out, HB.out⟩
  case round =>
    obtain ⟨k, hk, rfl, hall, hx, hb⟩ := hrel
    have HXr := Lib.hid hx
    have HBr := Lib.hid hb
    have hzr := hb.size
    obtain ⟨zt, c0, c1, c2, c3, c4, c5, c6, c7, c8, o0, o1, o2, _⟩ := hx
    clear hb c0 c1 c2 c3 c4 c5 c6 c7 c8 HX HB
    by_cases h9 : k = 9
    · subst h9
      have HA := Lib.hid hall
      clear hall
      go_wp2_with fail
      refine (S_IsValidVec _ _ _ _).mono ?_
      rintro e w' ⟨rfl, hb'⟩
      have HB' := Lib.hid (Below.trans HBr.out (hb'.mono hzr))
      clear hb'
      go_wp2_with fail
      go_ret
      exact ⟨ret_bool (by have h1 : allIn [m0, m1, m2, m3, m4, m5, m6, m7, m8] (-64) 64 = true := HA.out; rw [HE.out, h1]; rfl), HB'.out⟩
    · have hk9 : k < 9 := by omega
      have hcs : k = 0 ∨ k = 1 ∨ k = 2 ∨ k = 3 ∨ k = 4 ∨ k = 5 ∨ k = 6 ∨ k = 7 ∨ k = 8 := by omega
      rcases hcs with rfl | rfl | rfl | rfl | rfl | rfl | rfl | rfl | rfl
      · rw [show ((0 : Nat) : Int) = 0 from rfl]
        have hv : ∀ W : World, (Instr.index 22 (.agg #[.int .i64 m0, .int .i64 m1, .int .i64 m2, .int .i64 m3, .int .i64 m4, .int .i64 m5, .int .i64 m6, .int .i64 m7, .int .i64 m8]) (.int .i64 0)).run Try.prog W = .ok (.int .i64 m0) W := fun W => by first | rfl | kernel_rfl | (simp [go_sem])
        cases hi : inB m0 (-64) 64
        · have HF := Lib.hid (allIn_atT (l := [m0, m1, m2, m3, m4, m5, m6, m7, m8]) (k := 0) (lo := -64) (hi := 64) (by simp) hi)
          clear hall h9
          go_wp2_with fail
          go_wp2_with (first | (go_at_call 53; refine (S_in _ _ _ _).mono ?_; rw [hi]; rintro e w' ⟨rfl, rfl⟩) | fail)
          go_ret
          exact ⟨ret_bool (by rw [HE.out, HF.out]; rfl), (by repeat (first | (with_reducible exact Below.refl _ _) | (with_reducible exact HBr.out) | (with_reducible assumption) | ((with_reducible refine Below.alloc ?_ ?_ _); rotate_left; (first | omega | (simp <;> omega))) | ((with_reducible refine Below.setCell ?_ ?_ _); rotate_left; (first | omega | (simp <;> omega))) | (with_reducible refine below_drewN ?_ _) | (with_reducible refine Below.drew ?_) | ((with_reducible refine Below.step (by assumption) ?_ ?_); rotate_left; (first | omega | (simp <;> omega)))))⟩
        · have HN := Lib.hid (allIn_take (l := [m0, m1, m2, m3, m4, m5, m6, m7, m8]) (k := 0) (lo := -64) (hi := 64) hall (by simp) hi)
          clear hall h9
          go_wp2_with fail
          go_wp2_with (first | (go_at_call 53; refine (S_in _ _ _ _).mono ?_; rw [hi]; rintro e w' ⟨rfl, rfl⟩) | fail)
          go_roundw
          case rel => exact ⟨1, by omega, by go_num, HN.out, HXr.out, HBr.out⟩
          case measure => simp [intOf]
      · rw [show ((1 : Nat) : Int) = 1 from rfl]
        have hv : ∀ W : World, (Instr.index 22 (.agg #[.int .i64 m0, .int .i64 m1, .int .i64 m2, .int .i64 m3, .int .i64 m4, .int .i64 m5, .int .i64 m6, .int .i64 m7, .int .i64 m8]) (.int .i64 1)).run Try.prog W = .ok (.int .i64 m1) W := fun W => by first | rfl | kernel_rfl | (simp [go_sem])
        cases hi : inB m1 (-64) 64
        · have HF := Lib.hid (allIn_atT (l := [m0, m1, m2, m3, m4, m5, m6, m7, m8]) (k := 1) (lo := -64) (hi := 64) (by simp) hi)
          clear hall h9
          go_wp2_with fail
          go_wp2_with (first | (go_at_call 53; refine (S_in _ _ _ _).mono ?_; rw [hi]; rintro e w' ⟨rfl, rfl⟩) | fail)
          go_ret
          exact ⟨ret_bool (by rw [HE.out, HF.out]; rfl), (by repeat (first | (with_reducible exact Below.refl _ _) | (with_reducible exact HBr.out) | (with_reducible assumption) | ((with_reducible refine Below.alloc ?_ ?_ _); rotate_left; (first | omega | (simp <;> omega))) | ((with_reducible refine Below.setCell ?_ ?_ _); rotate_left; (first | omega | (simp <;> omega))) | (with_reducible refine below_drewN ?_ _) | (with_reducible refine Below.drew ?_) | ((with_reducible refine Below.step (by assumption) ?_ ?_); rotate_left; (first | omega | (simp <;> omega)))))⟩
        · have HN := Lib.hid (allIn_take (l := [m0, m1, m2, m3, m4, m5, m6, m7, m8]) (k := 1) (lo := -64) (hi := 64) hall (by simp) hi)
          clear hall h9
          go_wp2_with fail
          go_wp2_with (first | (go_at_call 53; refine (S_in _ _ _ _).mono ?_; rw [hi]; rintro e w' ⟨rfl, rfl⟩) | fail)
          go_roundw
          case rel => exact ⟨2, by omega, by go_num, HN.out, HXr.out, HBr.out⟩
          case measure => simp [intOf]
      · rw [show ((2 : Nat) : Int) = 2 from rfl]
        have hv : ∀ W : World, (Instr.index 22 (.agg #[.int .i64 m0, .int .i64 m1, .int .i64 m2, .int .i64 m3, .int .i64 m4, .int .i64 m5, .int .i64 m6, .int .i64 m7, .int .i64 m8]) (.int .i64 2)).run Try.prog W = .ok (.int .i64 m2) W := fun W => by first | rfl | kernel_rfl | (simp [go_sem])
        cases hi : inB m2 (-64) 64
        · have HF := Lib.hid (allIn_atT (l := [m0, m1, m2, m3, m4, m5, m6, m7, m8]) (k := 2) (lo := -64) (hi := 64) (by simp) hi)
          clear hall h9
          go_wp2_with fail
          go_wp2_with (first | (go_at_call 53; refine (S_in _ _ _ _).mono ?_; rw [hi]; rintro e w' ⟨rfl, rfl⟩) | fail)
          go_ret
          exact ⟨ret_bool (by rw [HE.out, HF.out]; rfl), (by repeat (first | (with_reducible exact Below.refl _ _) | (with_reducible exact HBr.out) | (with_reducible assumption) | ((with_reducible refine Below.alloc ?_ ?_ _); rotate_left; (first | omega | (simp <;> omega))) | ((with_reducible refine Below.setCell ?_ ?_ _); rotate_left; (first | omega | (simp <;> omega))) | (with_reducible refine below_drewN ?_ _) | (with_reducible refine Below.drew ?_) | ((with_reducible refine Below.step (by assumption) ?_ ?_); rotate_left; (first | omega | (simp <;> omega)))))⟩
        · have HN := Lib.hid (allIn_take (l := [m0, m1, m2, m3, m4, m5, m6, m7, m8]) (k := 2) (lo := -64) (hi := 64) hall (by simp) hi)
          clear hall h9
          go_wp2_with fail
          go_wp2_with (first | (go_at_call 53; refine (S_in _ _ _ _).mono ?_; rw [hi]; rintro e w' ⟨rfl, rfl⟩) | fail)
          go_roundw
          case rel => exact ⟨3, by omega, by go_num, HN.out, HXr.out, HBr.out⟩
          case measure => simp [intOf]
      · rw [show ((3 : Nat) : Int) = 3 from rfl]
        have hv : ∀ W : World, (Instr.index 22 (.agg #[.int .i64 m0, .int .i64 m1, .int .i64 m2, .int .i64 m3, .int .i64 m4, .int .i64 m5, .int .i64 m6, .int .i64 m7, .int .i64 m8]) (.int .i64 3)).run Try.prog W = .ok (.int .i64 m3) W := fun W => by first | rfl | kernel_rfl | (simp [go_sem])
        cases hi : inB m3 (-64) 64
        · have HF := Lib.hid (allIn_atT (l := [m0, m1, m2, m3, m4, m5, m6, m7, m8]) (k := 3) (lo := -64) (hi := 64) (by simp) hi)
          clear hall h9
          go_wp2_with fail
          go_wp2_with (first | (go_at_call 53; refine (S_in _ _ _ _).mono ?_; rw [hi]; rintro e w' ⟨rfl, rfl⟩) | fail)
          go_ret
          exact ⟨ret_bool (by rw [HE.out, HF.out]; rfl), (by repeat (first | (with_reducible exact Below.refl _ _) | (with_reducible exact HBr.out) | (with_reducible assumption) | ((with_reducible refine Below.alloc ?_ ?_ _); rotate_left; (first | omega | (simp <;> omega))) | ((with_reducible refine Below.setCell ?_ ?_ _); rotate_left; (first | omega | (simp <;> omega))) | (with_reducible refine below_drewN ?_ _) | (with_reducible refine Below.drew ?_) | ((with_reducible refine Below.step (by assumption) ?_ ?_); rotate_left; (first | omega | (simp <;> omega)))))⟩
        · have HN := Lib.hid (allIn_take (l := [m0, m1, m2, m3, m4, m5, m6, m7, m8]) (k := 3) (lo := -64) (hi := 64) hall (by simp) hi)
          clear hall h9
          go_wp2_with fail
          go_wp2_with (first | (go_at_call 53; refine (S_in _ _ _ _).mono ?_; rw [hi]; rintro e w' ⟨rfl, rfl⟩) | fail)
          go_roundw
          case rel => exact ⟨4, by omega, by go_num, HN.out, HXr.out, HBr.out⟩
          case measure => simp [intOf]
      · rw [show ((4 : Nat) : Int) = 4 from rfl]
        have hv : ∀ W : World, (Instr.index 22 (.agg #[.int .i64 m0, .int .i64 m1, .int .i64 m2, .int .i64 m3, .int .i64 m4, .int .i64 m5, .int .i64 m6, .int .i64 m7, .int .i64 m8]) (.int .i64 4)).run Try.prog W = .ok (.int .i64 m4) W := fun W => by first | rfl | kernel_rfl | (simp [go_sem])
        cases hi : inB m4 (-64) 64
        · have HF := Lib.hid (allIn_atT (l := [m0, m1, m2, m3, m4, m5, m6, m7, m8]) (k := 4) (lo := -64) (hi := 64) (by simp) hi)
          clear hall h9
          go_wp2_with fail
          go_wp2_with (first | (go_at_call 53; refine (S_in _ _ _ _).mono ?_; rw [hi]; rintro e w' ⟨rfl, rfl⟩) | fail)
          go_ret
          exact ⟨ret_bool (by rw [HE.out, HF.out]; rfl), (by repeat (first | (with_reducible exact Below.refl _ _) | (with_reducible exact HBr.out) | (with_reducible assumption) | ((with_reducible refine Below.alloc ?_ ?_ _); rotate_left; (first | omega | (simp <;> omega))) | ((with_reducible refine Below.setCell ?_ ?_ _); rotate_left; (first | omega | (simp <;> omega))) | (with_reducible refine below_drewN ?_ _) | (with_reducible refine Below.drew ?_) | ((with_reducible refine Below.step (by assumption) ?_ ?_); rotate_left; (first | omega | (simp <;> omega)))))⟩
        · have HN := Lib.hid (allIn_take (l := [m0, m1, m2, m3, m4, m5, m6, m7, m8]) (k := 4) (lo := -64) (hi := 64) hall (by simp) hi)
          clear hall h9
          go_wp2_with fail
          go_wp2_with (first | (go_at_call 53; refine (S_in _ _ _ _).mono ?_; rw [hi]; rintro e w' ⟨rfl, rfl⟩) | fail)
          go_roundw
          case rel => exact ⟨5, by omega, by go_num, HN.out, HXr.out, HBr.out⟩
          case measure => simp [intOf]
      · rw [show ((5 : Nat) : Int) = 5 from rfl]
        have hv : ∀ W : World, (Instr.index 22 (.agg #[.int .i64 m0, .int .i64 m1, .int .i64 m2, .int .i64 m3, .int .i64 m4, .int .i64 m5, .int .i64 m6, .int .i64 m7, .int .i64 m8]) (.int .i64 5)).run Try.prog W = .ok (.int .i64 m5) W := fun W => by first | rfl | kernel_rfl | (simp [go_sem])
        cases hi : inB m5 (-64) 64
        · have HF := Lib.hid (allIn_atT (l := [m0, m1, m2, m3, m4, m5, m6, m7, m8]) (k := 5) (lo := -64) (hi := 64) (by simp) hi)
          clear hall h9
          go_wp2_with fail
          go_wp2_with (first | (go_at_call 53; refine (S_in _ _ _ _).mono ?_; rw [hi]; rintro e w' ⟨rfl, rfl⟩) | fail)
          go_ret
          exact ⟨ret_bool (by rw [HE.out, HF.out]; rfl), (by repeat (first | (with_reducible exact Below.refl _ _) | (with_reducible exact HBr.out) | (with_reducible assumption) | ((with_reducible refine Below.alloc ?_ ?_ _); rotate_left; (first | omega | (simp <;> omega))) | ((with_reducible refine Below.setCell ?_ ?_ _); rotate_left; (first | omega | (simp <;> omega))) | (with_reducible refine below_drewN ?_ _) | (with_reducible refine Below.drew ?_) | ((with_reducible refine Below.step (by assumption) ?_ ?_); rotate_left; (first | omega | (simp <;> omega)))))⟩
        · have HN := Lib.hid (allIn_take (l := [m0, m1, m2, m3, m4, m5, m6, m7, m8]) (k := 5) (lo := -64) (hi := 64) hall (by simp) hi)
          clear hall h9
          go_wp2_with fail
          go_wp2_with (first | (go_at_call 53; refine (S_in _ _ _ _).mono ?_; rw [hi]; rintro e w' ⟨rfl, rfl⟩) | fail)
          go_roundw
          case rel => exact ⟨6, by omega, by go_num, HN.out, HXr.out, HBr.out⟩
          case measure => simp [intOf]
      · rw [show ((6 : Nat) : Int) = 6 from rfl]
        have hv : ∀ W : World, (Instr.index 22 (.agg #[.int .i64 m0, .int .i64 m1, .int .i64 m2, .int .i64 m3, .int .i64 m4, .int .i64 m5, .int .i64 m6, .int .i64 m7, .int .i64 m8]) (.int .i64 6)).run Try.prog W = .ok (.int .i64 m6) W := fun W => by first | rfl | kernel_rfl | (simp [go_sem])
        cases hi : inB m6 (-64) 64
        · have HF := Lib.hid (allIn_atT (l := [m0, m1, m2, m3, m4, m5, m6, m7, m8]) (k := 6) (lo := -64) (hi := 64) (by simp) hi)
          clear hall h9
          go_wp2_with fail
          go_wp2_with (first | (go_at_call 53; refine (S_in _ _ _ _).mono ?_; rw [hi]; rintro e w' ⟨rfl, rfl⟩) | fail)
          go_ret
          exact ⟨ret_bool (by rw [HE.out, HF.out]; rfl), (by repeat (first | (with_reducible exact Below.refl _ _) | (with_reducible exact HBr.out) | (with_reducible assumption) | ((with_reducible refine Below.alloc ?_ ?_ _); rotate_left; (first | omega | (simp <;> omega))) | ((with_reducible refine Below.setCell ?_ ?_ _); rotate_left; (first | omega | (simp <;> omega))) | (with_reducible refine below_drewN ?_ _) | (with_reducible refine Below.drew ?_) | ((with_reducible refine Below.step (by assumption) ?_ ?_); rotate_left; (first | omega | (simp <;> omega)))))⟩
        · have HN := Lib.hid (allIn_take (l := [m0, m1, m2, m3, m4, m5, m6, m7, m8]) (k := 6) (lo := -64) (hi := 64) hall (by simp) hi)
          clear hall h9
          go_wp2_with fail
          go_wp2_with (first | (go_at_call 53; refine (S_in _ _ _ _).mono ?_; rw [hi]; rintro e w' ⟨rfl, rfl⟩) | fail)
          go_roundw
          case rel => exact ⟨7, by omega, by go_num, HN.out, HXr.out, HBr.out⟩
          case measure => simp [intOf]
      · rw [show ((7 : Nat) : Int) = 7 from rfl]
        have hv : ∀ W : World, (Instr.index 22 (.agg #[.int .i64 m0, .int .i64 m1, .int .i64 m2, .int .i64 m3, .int .i64 m4, .int .i64 m5, .int .i64 m6, .int .i64 m7, .int .i64 m8]) (.int .i64 7)).run Try.prog W = .ok (.int .i64 m7) W := fun W => by first | rfl | kernel_rfl | (simp [go_sem])
        cases hi : inB m7 (-64) 64
        · have HF := Lib.hid (allIn_atT (l := [m0, m1, m2, m3, m4, m5, m6, m7, m8]) (k := 7) (lo := -64) (hi := 64) (by simp) hi)
          clear hall h9
          go_wp2_with fail
          go_wp2_with (first | (go_at_call 53; refine (S_in _ _ _ _).mono ?_; rw [hi]; rintro e w' ⟨rfl, rfl⟩) | fail)
          go_ret
          exact ⟨ret_bool (by rw [HE.out, HF.out]; rfl), (by repeat (first | (with_reducible exact Below.refl _ _) | (with_reducible exact HBr.out) | (with_reducible assumption) | ((with_reducible refine Below.alloc ?_ ?_ _); rotate_left; (first | omega | (simp <;> omega))) | ((with_reducible refine Below.setCell ?_ ?_ _); rotate_left; (first | omega | (simp <;> omega))) | (with_reducible refine below_drewN ?_ _) | (with_reducible refine Below.drew ?_) | ((with_reducible refine Below.step (by assumption) ?_ ?_); rotate_left; (first | omega | (simp <;> omega)))))⟩
        · have HN := Lib.hid (allIn_take (l := [m0, m1, m2, m3, m4, m5, m6, m7, m8]) (k := 7) (lo := -64) (hi := 64) hall (by simp) hi)
          clear hall h9
          go_wp2_with fail
          go_wp2_with (first | (go_at_call 53; refine (S_in _ _ _ _).mono ?_; rw [hi]; rintro e w' ⟨rfl, rfl⟩) | fail)
          go_roundw
          case rel => exact ⟨8, by omega, by go_num, HN.out, HXr.out, HBr.out⟩
          case measure => simp [intOf]
      · rw [show ((8 : Nat) : Int) = 8 from rfl]
        have hv : ∀ W : World, (Instr.index 22 (.agg #[.int .i64 m0, .int .i64 m1, .int .i64 m2, .int .i64 m3, .int .i64 m4, .int .i64 m5, .int .i64 m6, .int .i64 m7, .int .i64 m8]) (.int .i64 8)).run Try.prog W = .ok (.int .i64 m8) W := fun W => by first | rfl | kernel_rfl | (simp [go_sem])
        cases hi : inB m8 (-64) 64
        · have HF := Lib.hid (allIn_atT (l := [m0, m1, m2, m3, m4, m5, m6, m7, m8]) (k := 8) (lo := -64) (hi := 64) (by simp) hi)
          clear hall h9
          go_wp2_with fail
          go_wp2_with (first | (go_at_call 53; refine (S_in _ _ _ _).mono ?_; rw [hi]; rintro e w' ⟨rfl, rfl⟩) | fail)
          go_ret
          exact ⟨ret_bool (by rw [HE.out, HF.out]; rfl), (by repeat (first | (with_reducible exact Below.refl _ _) | (with_reducible exact HBr.out) | (with_reducible assumption) | ((with_reducible refine Below.alloc ?_ ?_ _); rotate_left; (first | omega | (simp <;> omega))) | ((with_reducible refine Below.setCell ?_ ?_ _); rotate_left; (first | omega | (simp <;> omega))) | (with_reducible refine below_drewN ?_ _) | (with_reducible refine Below.drew ?_) | ((with_reducible refine Below.step (by assumption) ?_ ?_); rotate_left; (first | omega | (simp <;> omega)))))⟩
        · have HN := Lib.hid (allIn_take (l := [m0, m1, m2, m3, m4, m5, m6, m7, m8]) (k := 8) (lo := -64) (hi := 64) hall (by simp) hi)
          clear hall h9
          go_wp2_with fail
          go_wp2_with (first | (go_at_call 53; refine (S_in _ _ _ _).mono ?_; rw [hi]; rintro e w' ⟨rfl, rfl⟩) | fail)
          go_roundw
          case rel => exact ⟨9, by omega, by go_num, HN.out, HXr.out, HBr.out⟩
          case measure => simp [intOf]
def pl (k j : Nat) (v : Int) : Int := if j < k then v else 0
set_option maxHeartbeats 16000000 in
theorem S_Apply (m0 m1 m2 m3 m4 m5 m6 m7 m8 a b c x y z : Int) (w : World) :
    Calls Try.prog 6 #[vTr m0 m1 m2 m3 m4 m5 m6 m7 m8 a b c, vVec x y z] w fun e w' => e = .returned (applyV m0 m1 m2 m3 m4 m5 m6 m7 m8 a b c x y z) ∧ Below w.heap.size w w' := by
  cases hok : okT m0 m1 m2 m3 m4 m5 m6 m7 m8 a b c
  case false =>
    have HE : Hid (applyV m0 m1 m2 m3 m4 m5 m6 m7 m8 a b c x y z = vVec x y z) := Lib.hid (by unfold applyV; rw [hok]; rfl)
    have HV : Hid (∀ wx, Calls Try.prog 23 #[vTr m0 m1 m2 m3 m4 m5 m6 m7 m8 a b c] wx fun e w' => e = .returned (.bool false) ∧ Below wx.heap.size wx w') := fun wx => by
      have := S_IsValidTransform m0 m1 m2 m3 m4 m5 m6 m7 m8 a b c wx
      rwa [hok] at this
    clear hok
    go_enter Try.func6, Try.ntmps6
    go_wp2_with (first | (go_at_call 23; refine (HV.out _).mono ?_; rintro e w' ⟨rfl, hb⟩; have hz := hb.size; (try simp at hz); have c0 := fun o => hb.cell (p := ⟨w.heap.size, o, none⟩) (by first | omega | (simp <;> omega)); have f0 := fun o => hb.frozen (p := ⟨w.heap.size, o, none⟩) (by first | omega | (simp <;> omega)); have z0 : w.heap.size < w'.heap.size := (by omega); have c1 := fun o => hb.cell (p := ⟨w.heap.size + 1, o, none⟩) (by first | omega | (simp <;> omega)); have f1 := fun o => hb.frozen (p := ⟨w.heap.size + 1, o, none⟩) (by first | omega | (simp <;> omega)); have z1 : w.heap.size + 1 < w'.heap.size := (by omega); have c2 := fun o => hb.cell (p := ⟨w.heap.size + 1 + 1, o, none⟩) (by first | omega | (simp <;> omega)); have f2 := fun o => hb.frozen (p := ⟨w.heap.size + 1 + 1, o, none⟩) (by first | omega | (simp <;> omega)); have z2 : w.heap.size + 1 + 1 < w'.heap.size := (by omega)) | fail)
    rw [HE.out]
    exact bodyPost_ret (v := vVec x y z) (by simp [results, Try.results6, go_sem, *]) rfl ⟨rfl, (by repeat (first | (with_reducible exact Below.refl _ _) | (with_reducible assumption) | ((with_reducible refine Below.alloc ?_ ?_ _); rotate_left; (first | omega | (simp <;> omega))) | ((with_reducible refine Below.setCell ?_ ?_ _); rotate_left; (first | omega | (simp <;> omega))) | (with_reducible refine below_drewN ?_ _) | (with_reducible refine Below.drew ?_) | ((with_reducible refine Below.step (by assumption) ?_ ?_); rotate_left; (first | omega | (simp <;> omega)))))⟩
  case true =>
    have HE : Hid (applyV m0 m1 m2 m3 m4 m5 m6 m7 m8 a b c x y z = addV (part m0 m1 m2 x y z) (part m3 m4 m5 x y z) (part m6 m7 m8 x y z) a b c) := Lib.hid (by unfold applyV; rw [hok]; rfl)
    have HV : Hid (∀ wx, Calls Try.prog 23 #[vTr m0 m1 m2 m3 m4 m5 m6 m7 m8 a b c] wx fun e w' => e = .returned (.bool true) ∧ Below wx.heap.size wx w') := fun wx => by
      have := S_IsValidTransform m0 m1 m2 m3 m4 m5 m6 m7 m8 a b c wx
      rwa [hok] at this
    obtain ⟨hall, _⟩ := okT_true hok
    obtain ⟨rm0, rm1, rm2, rm3, rm4, rm5, rm6, rm7, rm8⟩ := nine_rng hall
    have wl0 := wl 0 (by omega)
    have wl1 := wl 1 (by omega)
    have wl2 := wl 2 (by omega)
    have wl3 := wl 3 (by omega)
    have wl4 := wl 4 (by omega)
    have wl5 := wl 5 (by omega)
    have wl6 := wl 6 (by omega)
    have wl7 := wl 7 (by omega)
    have wl8 := wl 8 (by omega)
    have L0 := lin_abs x y z rm0 rm1 rm2
    have L1 := lin_abs x y z rm3 rm4 rm5
    have L2 := lin_abs x y z rm6 rm7 rm8
    rw [show applyV m0 m1 m2 m3 m4 m5 m6 m7 m8 a b c x y z = _ from HE.out]
    have HD0 : Hid (∀ wx, Calls Try.prog 25 #[.int .i64 (m0 * cl x + m1 * cl y + m2 * cl z), .int .i64 16] wx fun e w' => e = .returned (.int .i64 (part m0 m1 m2 x y z)) ∧ wx = w') := fun wx => S_FloorDiv (a := m0 * cl x + m1 * cl y + m2 * cl z) (b := 16) wx (by omega) (by omega)
    have y0a : IntKind.i64.wrap (m0 * cl x) = m0 * cl x := IntWalk.i64_in _ (by omega)
    have y0b : IntKind.i64.wrap (m1 * cl y) = m1 * cl y := IntWalk.i64_in _ (by omega)
    have y0c : IntKind.i64.wrap (m2 * cl z) = m2 * cl z := IntWalk.i64_in _ (by omega)
    have y0d : IntKind.i64.wrap (m0 * cl x + m1 * cl y) = m0 * cl x + m1 * cl y := IntWalk.i64_in _ (by omega)
    have y0e : IntKind.i64.wrap (m0 * cl x + m1 * cl y + m2 * cl z) = m0 * cl x + m1 * cl y + m2 * cl z := IntWalk.i64_in _ (by omega)
    have HD1 : Hid (∀ wx, Calls Try.prog 25 #[.int .i64 (m3 * cl x + m4 * cl y + m5 * cl z), .int .i64 16] wx fun e w' => e = .returned (.int .i64 (part m3 m4 m5 x y z)) ∧ wx = w') := fun wx => S_FloorDiv (a := m3 * cl x + m4 * cl y + m5 * cl z) (b := 16) wx (by omega) (by omega)
    have y1a : IntKind.i64.wrap (m3 * cl x) = m3 * cl x := IntWalk.i64_in _ (by omega)
    have y1b : IntKind.i64.wrap (m4 * cl y) = m4 * cl y := IntWalk.i64_in _ (by omega)
    have y1c : IntKind.i64.wrap (m5 * cl z) = m5 * cl z := IntWalk.i64_in _ (by omega)
    have y1d : IntKind.i64.wrap (m3 * cl x + m4 * cl y) = m3 * cl x + m4 * cl y := IntWalk.i64_in _ (by omega)
    have y1e : IntKind.i64.wrap (m3 * cl x + m4 * cl y + m5 * cl z) = m3 * cl x + m4 * cl y + m5 * cl z := IntWalk.i64_in _ (by omega)
    have HD2 : Hid (∀ wx, Calls Try.prog 25 #[.int .i64 (m6 * cl x + m7 * cl y + m8 * cl z), .int .i64 16] wx fun e w' => e = .returned (.int .i64 (part m6 m7 m8 x y z)) ∧ wx = w') := fun wx => S_FloorDiv (a := m6 * cl x + m7 * cl y + m8 * cl z) (b := 16) wx (by omega) (by omega)
    have y2a : IntKind.i64.wrap (m6 * cl x) = m6 * cl x := IntWalk.i64_in _ (by omega)
    have y2b : IntKind.i64.wrap (m7 * cl y) = m7 * cl y := IntWalk.i64_in _ (by omega)
    have y2c : IntKind.i64.wrap (m8 * cl z) = m8 * cl z := IntWalk.i64_in _ (by omega)
    have y2d : IntKind.i64.wrap (m6 * cl x + m7 * cl y) = m6 * cl x + m7 * cl y := IntWalk.i64_in _ (by omega)
    have y2e : IntKind.i64.wrap (m6 * cl x + m7 * cl y + m8 * cl z) = m6 * cl x + m7 * cl y + m8 * cl z := IntWalk.i64_in _ (by omega)
    clear L0 L1 L2 HE hok hall rm0 rm1 rm2 rm3 rm4 rm5 rm6 rm7 rm8
    generalize part m0 m1 m2 x y z = P0 at *
    generalize part m3 m4 m5 x y z = P1 at *
    generalize part m6 m7 m8 x y z = P2 at *
    go_enter Try.func6, Try.ntmps6
    go_wp2_with fail
    refine (HV.out _).mono ?_
    rintro e w1 ⟨rfl, hb1⟩
    have hz1 := hb1.size
    (try simp at hz1)
    have HT1 : Hid (Box w1 w.heap.size [.int .i64 m0, .int .i64 m1, .int .i64 m2, .int .i64 m3, .int .i64 m4, .int .i64 m5, .int .i64 m6, .int .i64 m7, .int .i64 m8, .int .i64 a, .int .i64 b, .int .i64 c]) := Lib.hid (Box.of_own (Own.step hb1 (Own.alloc (Own.alloc (Own.new w 30 #[.int .i64 m0, .int .i64 m1, .int .i64 m2, .int .i64 m3, .int .i64 m4, .int .i64 m5, .int .i64 m6, .int .i64 m7, .int .i64 m8, .int .i64 a, .int .i64 b, .int .i64 c]) _) _)))
    have HX1 : Hid (Box w1 (w.heap.size + 1) [.int .i64 x, .int .i64 y, .int .i64 z]) := Lib.hid (Box.of_own (Own.step hb1 (Own.alloc (Own.at_new (w := w.alloc _) (t := 27) (cs := #[.int .i64 x, .int .i64 y, .int .i64 z]) (by simp)) _)))
    have HL1 : Hid (Own w1 (w.heap.size + 1 + 1) 27 [.int .i64 0, .int .i64 0, .int .i64 0]) := Lib.hid (Own.step hb1 (Own.at_new (w := (w.alloc _).alloc _) (t := 27) (cs := #[.int .i64 0, .int .i64 0, .int .i64 0]) (by simp)))
    have HB1 := Lib.hid (show Below w.heap.size w w1 from (by repeat (first | (with_reducible exact Below.refl _ _) | (with_reducible assumption) | ((with_reducible refine Below.alloc ?_ ?_ _); rotate_left; (first | omega | (simp <;> omega))) | ((with_reducible refine Below.setCell ?_ ?_ _); rotate_left; (first | omega | (simp <;> omega))) | (with_reducible refine below_drewN ?_ _) | (with_reducible refine Below.drew ?_) | ((with_reducible refine Below.step (by assumption) ?_ ?_); rotate_left; (first | omega | (simp <;> omega))))))
    clear hb1
    obtain ⟨zx, d0, d1, d2⟩ := HX1.out.open3
    go_wp2_with fail
    refine (S_l02V _ _ _ _).mono ?_
    rintro e w2 ⟨rfl, hb2⟩
    have hz2 := hb2.size
    have HT2 := Lib.hid (HT1.out.step hb2)
    have HL2 := Lib.hid (HL1.out.step hb2)
    have HB2 := Lib.hid (Below.trans HB1.out (hb2.mono (show w.heap.size ≤ w1.heap.size by omega)))
    clear hb2 d0 d1 d2 zx HX1 HT1 HL1
    have h12 : w.heap.size + 1 + 1 < w2.heap.size := by omega
    clear hz1 hz2
    have HT3 : Hid (Box ((w2.alloc (.cells #[.int .i64 (cl x), .int .i64 (cl y), .int .i64 (cl z)] 27)).alloc (.cells #[.int .i64 0, .int .i64 0, .int .i64 0] 3)) w.heap.size [.int .i64 m0, .int .i64 m1, .int .i64 m2, .int .i64 m3, .int .i64 m4, .int .i64 m5, .int .i64 m6, .int .i64 m7, .int .i64 m8, .int .i64 a, .int .i64 b, .int .i64 c]) := Lib.hid (HT2.out.step (Below.alloc (Below.alloc (Below.refl _ _) (Nat.le_refl _) _) (by simp) _))
    have HY3 : Hid (Box ((w2.alloc (.cells #[.int .i64 (cl x), .int .i64 (cl y), .int .i64 (cl z)] 27)).alloc (.cells #[.int .i64 0, .int .i64 0, .int .i64 0] 3)) w2.heap.size [.int .i64 (cl x), .int .i64 (cl y), .int .i64 (cl z)]) := Lib.hid (Box.of_own (Own.alloc (Own.new w2 27 #[_, _, _]) _))
    have HP3 : Hid (Own ((w2.alloc (.cells #[.int .i64 (cl x), .int .i64 (cl y), .int .i64 (cl z)] 27)).alloc (.cells #[.int .i64 0, .int .i64 0, .int .i64 0] 3)) (w2.heap.size + 1) 3 [.int .i64 0, .int .i64 0, .int .i64 0]) := Lib.hid (Own.at_new (cs := #[_, _, _]) (by simp))
    have HL3 : Hid (Own ((w2.alloc (.cells #[.int .i64 (cl x), .int .i64 (cl y), .int .i64 (cl z)] 27)).alloc (.cells #[.int .i64 0, .int .i64 0, .int .i64 0] 3)) (w.heap.size + 1 + 1) 27 [.int .i64 0, .int .i64 0, .int .i64 0]) := Lib.hid (Own.alloc (Own.alloc HL2.out _) _)
    have HB3 : Hid (Below w.heap.size w ((w2.alloc (.cells #[.int .i64 (cl x), .int .i64 (cl y), .int .i64 (cl z)] 27)).alloc (.cells #[.int .i64 0, .int .i64 0, .int .i64 0] 3))) := Lib.hid (by repeat (first | (with_reducible exact Below.refl _ _) | (with_reducible exact HB2.out) | (with_reducible assumption) | ((with_reducible refine Below.alloc ?_ ?_ _); rotate_left; (first | omega | (simp <;> omega))) | ((with_reducible refine Below.setCell ?_ ?_ _); rotate_left; (first | omega | (simp <;> omega))) | (with_reducible refine below_drewN ?_ _) | (with_reducible refine Below.drew ?_) | ((with_reducible refine Below.step (by assumption) ?_ ?_); rotate_left; (first | omega | (simp <;> omega)))))
    clear HT2 HL2 HB2
    go_wp2_with fail
    generalize (w2.alloc _).alloc _ = u at *
    generalize w2.heap.size = YB at *
    go_loopw [7, 17] (fun _ p wr => ∃ k : Nat, k ≤ 3 ∧ p = .int .i64 k ∧ Box wr w.heap.size [.int .i64 m0, .int .i64 m1, .int .i64 m2, .int .i64 m3, .int .i64 m4, .int .i64 m5, .int .i64 m6, .int .i64 m7, .int .i64 m8, .int .i64 a, .int .i64 b, .int .i64 c] ∧ Box wr YB [.int .i64 (cl x), .int .i64 (cl y), .int .i64 (cl z)] ∧ Own wr (w.heap.size + 1 + 1) 27 [.int .i64 0, .int .i64 0, .int .i64 0] ∧ Own wr (YB + 1) 3 [.int .i64 (pl k 0 P0), .int .i64 (pl k 1 P1), .int .i64 (pl k 2 P2)] ∧ Below w.heap.size w wr) (fun _ p _ => 3 - (intOf p).toNat)
    case atStart => exact ⟨0, by omega, rfl, HT3.out, HY3.out, HL3.out, HP3.out, HB3.out⟩
    case round =>
      obtain ⟨k, hk, rfl, ht, hy, hl, hp, hb⟩ := hrel
      have HTr := Lib.hid ht
      have HYr := Lib.hid hy
      have HLr := Lib.hid hl
      have HBr := Lib.hid hb
      clear ht hy hl hb HT3 HY3 HL3 HP3 HB3
      have i1 : ¬ w.heap.size = YB + 1 := by omega
      have i2 : ¬ w.heap.size + 1 + 1 = YB + 1 := by omega
      have i3 : ¬ YB + 1 = w.heap.size + 1 + 1 := by omega
      have i4 : ¬ YB + 1 = w.heap.size := by omega
      have i5 : ¬ YB = YB + 1 := by omega
      have i6 : ¬ YB + 1 = YB := by omega
      by_cases h3 : k = 3
      · subst h3
        have HP : Hid (Own wr (YB + 1) 3 [.int .i64 P0, .int .i64 P1, .int .i64 P2]) := Lib.hid hp
        clear hp
        have p0 := HP.out.cell 0
        have p1 := HP.out.cell 1
        have p2 := HP.out.cell 2
        have pf := HP.out.frozen
        have pl_ := HP.out.lt
        have q0 := HLr.out.cell 0
        have q1 := HLr.out.cell 1
        have q2 := HLr.out.cell 2
        have qf := HLr.out.frozen
        have ql := HLr.out.lt
        obtain ⟨zt, c0, c1, c2, c3, c4, c5, c6, c7, c8, o0, o1, o2, _⟩ := HTr.out
        simp only [List.getElem?_cons_zero, List.getElem?_cons_succ] at p0 p1 p2 q0 q1 q2
        clear c0 c1 c2 c3 c4 c5 c6 c7 c8
        go_wp2_with fail
        go_region_held3 (fun w' => w'.cell? ⟨YB + 1, 0, none⟩ = some (.int .i64 P0) ∧ w'.cell? ⟨YB + 1, 1, none⟩ = some (.int .i64 P1) ∧ w'.cell? ⟨YB + 1, 2, none⟩ = some (.int .i64 P2) ∧ w'.cell? ⟨w.heap.size, 9, none⟩ = some (.int .i64 a) ∧ w'.cell? ⟨w.heap.size, 10, none⟩ = some (.int .i64 b) ∧ w'.cell? ⟨w.heap.size, 11, none⟩ = some (.int .i64 c))
          (first | ((try dsimp only); refine ⟨?_, ?_, ?_, ?_, ?_, ?_⟩ <;> (go_simp; done)) | go_keep)
          (first | (go_at_call 26; (with_reducible refine (S_AddV _ _ _ _ _ _ _).mono ?_); rintro e w' ⟨rfl, hb⟩; have hz := hb.size; (try simp at hz); have d0 := fun o => hb.cell (p := ⟨YB + 1, o, none⟩) (by first | omega | (simp <;> omega)); have d1 := fun o => hb.cell (p := ⟨w.heap.size, o, none⟩) (by first | omega | (simp <;> omega)); have d2 := fun o => hb.cell (p := ⟨w.heap.size + 1 + 1, o, none⟩) (by first | omega | (simp <;> omega)); have d3 := fun o => hb.frozen (p := ⟨w.heap.size + 1 + 1, o, none⟩) (by first | omega | (simp <;> omega)); have d4 : w.heap.size + 1 + 1 < w'.heap.size := (by omega)) | fail)
        all_goals
          have hB9 := HBr.out
          go_wp2
          exact bodyPost_ret (v := vVec (cl (cl P0 + cl a)) (cl (cl P1 + cl b)) (cl (cl P2 + cl c))) (by simp [results, Try.results6, go_sem, *]) rfl ⟨rfl, (by repeat (first | (with_reducible exact Below.refl _ _) | (with_reducible exact hB9) | (with_reducible assumption) | ((with_reducible refine Below.alloc ?_ ?_ _); rotate_left; (first | omega | (simp <;> omega))) | ((with_reducible refine Below.setCell ?_ ?_ _); rotate_left; (first | omega | (simp <;> omega))) | (with_reducible refine below_drewN ?_ _) | (with_reducible refine Below.drew ?_) | ((with_reducible refine Below.step (by assumption) ?_ ?_); rotate_left; (first | omega | (simp <;> omega)))))⟩
      · have hk3 : k < 3 := by omega
        obtain ⟨zy, x0, x1, x2⟩ := HYr.out.open3
        obtain ⟨zt, c0, c1, c2, c3, c4, c5, c6, c7, c8, c9, c10, c11, _⟩ := HTr.out
        have hcs : k = 0 ∨ k = 1 ∨ k = 2 := by omega
        rcases hcs with rfl | rfl | rfl
        · have HP : Hid (Own wr (YB + 1) 3 [.int .i64 0, .int .i64 0, .int .i64 0]) := Lib.hid hp
          rw [show ((0 : Nat) : Int) = 0 from rfl]
          clear hp h3
          have p0 := HP.out.cell 0
          have pf := HP.out.frozen
          have pl_ := HP.out.lt
          simp only [List.getElem?_cons_zero] at p0
          clear c3 c4 c5 c6 c7 c8 c9 c10 c11
          go_wp2_with fail
          go_region_held3 (fun w' => w'.cell? ⟨w.heap.size, 0, none⟩ = some (.int .i64 m0) ∧ w'.cell? ⟨w.heap.size, 1, none⟩ = some (.int .i64 m1) ∧ w'.cell? ⟨w.heap.size, 2, none⟩ = some (.int .i64 m2) ∧ w'.cell? ⟨YB, 0, none⟩ = some (.int .i64 (cl x)) ∧ w'.cell? ⟨YB, 1, none⟩ = some (.int .i64 (cl y)) ∧ w'.cell? ⟨YB, 2, none⟩ = some (.int .i64 (cl z)))
            (first | ((try dsimp only); refine ⟨?_, ?_, ?_, ?_, ?_, ?_⟩ <;> (go_simp; done)) | go_keep)
            (first | (go_at_call 25; (with_reducible refine (HD0.out _).mono ?_); rintro e w' ⟨rfl, rfl⟩) | fail)
          all_goals
            go_wp2_with fail
            go_roundw
            case rel => exact ⟨1, by omega, by go_num, (by repeat (first | (with_reducible exact HTr.out) | ((with_reducible refine Box.far ?_ ?_ _); rotate_left; (first | omega | (simp <;> omega))) | (with_reducible refine Box.drew ?_) | (with_reducible refine Box.drewN ?_ _))), (by repeat (first | (with_reducible exact HYr.out) | ((with_reducible refine Box.far ?_ ?_ _); rotate_left; (first | omega | (simp <;> omega))) | (with_reducible refine Box.drew ?_) | (with_reducible refine Box.drewN ?_ _))), (by repeat (first | (with_reducible exact HLr.out) | ((with_reducible refine Own.far ?_ ?_ _); rotate_left; (first | omega | (simp <;> omega))) | (with_reducible refine Own.alloc ?_ _) | (with_reducible refine Own.drewN ?_ _) | (with_reducible refine Own.drew ?_) | (with_reducible refine Own.step (by assumption) ?_))), Own.set_ HP.out 0 (.int .i64 P0), (by repeat (first | (with_reducible exact Below.refl _ _) | (with_reducible exact HBr.out) | (with_reducible assumption) | ((with_reducible refine Below.alloc ?_ ?_ _); rotate_left; (first | omega | (simp <;> omega))) | ((with_reducible refine Below.setCell ?_ ?_ _); rotate_left; (first | omega | (simp <;> omega))) | (with_reducible refine below_drewN ?_ _) | (with_reducible refine Below.drew ?_) | ((with_reducible refine Below.step (by assumption) ?_ ?_); rotate_left; (first | omega | (simp <;> omega)))))⟩
            case measure => simp [intOf]
        · have HP : Hid (Own wr (YB + 1) 3 [.int .i64 P0, .int .i64 0, .int .i64 0]) := Lib.hid hp
          rw [show ((1 : Nat) : Int) = 1 from rfl]
          clear hp h3
          have p0 := HP.out.cell 1
          have pf := HP.out.frozen
          have pl_ := HP.out.lt
          simp only [List.getElem?_cons_zero, List.getElem?_cons_succ] at p0
          clear c0 c1 c2 c6 c7 c8 c9 c10 c11
          go_wp2_with fail
          go_region_held3 (fun w' => w'.cell? ⟨w.heap.size, 3, none⟩ = some (.int .i64 m3) ∧ w'.cell? ⟨w.heap.size, 4, none⟩ = some (.int .i64 m4) ∧ w'.cell? ⟨w.heap.size, 5, none⟩ = some (.int .i64 m5) ∧ w'.cell? ⟨YB, 0, none⟩ = some (.int .i64 (cl x)) ∧ w'.cell? ⟨YB, 1, none⟩ = some (.int .i64 (cl y)) ∧ w'.cell? ⟨YB, 2, none⟩ = some (.int .i64 (cl z)))
            (first | ((try dsimp only); refine ⟨?_, ?_, ?_, ?_, ?_, ?_⟩ <;> (go_simp; done)) | go_keep)
            (first | (go_at_call 25; (with_reducible refine (HD1.out _).mono ?_); rintro e w' ⟨rfl, rfl⟩) | fail)
          all_goals
            go_wp2_with fail
            go_roundw
            case rel => exact ⟨2, by omega, by go_num, (by repeat (first | (with_reducible exact HTr.out) | ((with_reducible refine Box.far ?_ ?_ _); rotate_left; (first | omega | (simp <;> omega))) | (with_reducible refine Box.drew ?_) | (with_reducible refine Box.drewN ?_ _))), (by repeat (first | (with_reducible exact HYr.out) | ((with_reducible refine Box.far ?_ ?_ _); rotate_left; (first | omega | (simp <;> omega))) | (with_reducible refine Box.drew ?_) | (with_reducible refine Box.drewN ?_ _))), (by repeat (first | (with_reducible exact HLr.out) | ((with_reducible refine Own.far ?_ ?_ _); rotate_left; (first | omega | (simp <;> omega))) | (with_reducible refine Own.alloc ?_ _) | (with_reducible refine Own.drewN ?_ _) | (with_reducible refine Own.drew ?_) | (with_reducible refine Own.step (by assumption) ?_))), Own.set_ HP.out 1 (.int .i64 P1), (by repeat (first | (with_reducible exact Below.refl _ _) | (with_reducible exact HBr.out) | (with_reducible assumption) | ((with_reducible refine Below.alloc ?_ ?_ _); rotate_left; (first | omega | (simp <;> omega))) | ((with_reducible refine Below.setCell ?_ ?_ _); rotate_left; (first | omega | (simp <;> omega))) | (with_reducible refine below_drewN ?_ _) | (with_reducible refine Below.drew ?_) | ((with_reducible refine Below.step (by assumption) ?_ ?_); rotate_left; (first | omega | (simp <;> omega)))))⟩
            case measure => simp [intOf]
        · have HP : Hid (Own wr (YB + 1) 3 [.int .i64 P0, .int .i64 P1, .int .i64 0]) := Lib.hid hp
          rw [show ((2 : Nat) : Int) = 2 from rfl]
          clear hp h3
          have p0 := HP.out.cell 2
          have pf := HP.out.frozen
          have pl_ := HP.out.lt
          simp only [List.getElem?_cons_zero, List.getElem?_cons_succ] at p0
          clear c0 c1 c2 c3 c4 c5 c9 c10 c11
          go_wp2_with fail
          go_region_held3 (fun w' => w'.cell? ⟨w.heap.size, 6, none⟩ = some (.int .i64 m6) ∧ w'.cell? ⟨w.heap.size, 7, none⟩ = some (.int .i64 m7) ∧ w'.cell? ⟨w.heap.size, 8, none⟩ = some (.int .i64 m8) ∧ w'.cell? ⟨YB, 0, none⟩ = some (.int .i64 (cl x)) ∧ w'.cell? ⟨YB, 1, none⟩ = some (.int .i64 (cl y)) ∧ w'.cell? ⟨YB, 2, none⟩ = some (.int .i64 (cl z)))
            (first | ((try dsimp only); refine ⟨?_, ?_, ?_, ?_, ?_, ?_⟩ <;> (go_simp; done)) | go_keep)
            (first | (go_at_call 25; (with_reducible refine (HD2.out _).mono ?_); rintro e w' ⟨rfl, rfl⟩) | fail)
          all_goals
            go_wp2_with fail
            go_roundw
            case rel => exact ⟨3, by omega, by go_num, (by repeat (first | (with_reducible exact HTr.out) | ((with_reducible refine Box.far ?_ ?_ _); rotate_left; (first | omega | (simp <;> omega))) | (with_reducible refine Box.drew ?_) | (with_reducible refine Box.drewN ?_ _))), (by repeat (first | (with_reducible exact HYr.out) | ((with_reducible refine Box.far ?_ ?_ _); rotate_left; (first | omega | (simp <;> omega))) | (with_reducible refine Box.drew ?_) | (with_reducible refine Box.drewN ?_ _))), (by repeat (first | (with_reducible exact HLr.out) | ((with_reducible refine Own.far ?_ ?_ _); rotate_left; (first | omega | (simp <;> omega))) | (with_reducible refine Own.alloc ?_ _) | (with_reducible refine Own.drewN ?_ _) | (with_reducible refine Own.drew ?_) | (with_reducible refine Own.step (by assumption) ?_))), Own.set_ HP.out 2 (.int .i64 P2), (by repeat (first | (with_reducible exact Below.refl _ _) | (with_reducible exact HBr.out) | (with_reducible assumption) | ((with_reducible refine Below.alloc ?_ ?_ _); rotate_left; (first | omega | (simp <;> omega))) | ((with_reducible refine Below.setCell ?_ ?_ _); rotate_left; (first | omega | (simp <;> omega))) | (with_reducible refine below_drewN ?_ _) | (with_reducible refine Below.drew ?_) | ((with_reducible refine Below.step (by assumption) ?_ ?_); rotate_left; (first | omega | (simp <;> omega)))))⟩
            case measure => simp [intOf]
set_option maxHeartbeats 16000000 in
theorem I_Apply (m0 m1 m2 m3 m4 m5 m6 m7 m8 a b c x y z : Int) (w : World) :
    Calls Try.prog 9 #[vTr m0 m1 m2 m3 m4 m5 m6 m7 m8 a b c, vVec x y z] w fun e w' => e = .returned (applyV m0 m1 m2 m3 m4 m5 m6 m7 m8 a b c x y z) ∧ Below w.heap.size w w' := by
  cases hok : okT m0 m1 m2 m3 m4 m5 m6 m7 m8 a b c
  case false =>
    have HE : Hid (applyV m0 m1 m2 m3 m4 m5 m6 m7 m8 a b c x y z = vVec x y z) := Lib.hid (by unfold applyV; rw [hok]; rfl)
    have HV : Hid (∀ wx, Calls Try.prog 28 #[vTr m0 m1 m2 m3 m4 m5 m6 m7 m8 a b c] wx fun e w' => e = .returned (.bool false) ∧ Below wx.heap.size wx w') := fun wx => by
      have := I_IsValidTransform m0 m1 m2 m3 m4 m5 m6 m7 m8 a b c wx
      rwa [hok] at this
    clear hok
    go_enter Try.func9, Try.ntmps9
    go_wp2_with (first | (go_at_call 28; refine (HV.out _).mono ?_; rintro e w' ⟨rfl, hb⟩; have hz := hb.size; (try simp at hz); have c0 := fun o => hb.cell (p := ⟨w.heap.size, o, none⟩) (by first | omega | (simp <;> omega)); have f0 := fun o => hb.frozen (p := ⟨w.heap.size, o, none⟩) (by first | omega | (simp <;> omega)); have z0 : w.heap.size < w'.heap.size := (by omega); have c1 := fun o => hb.cell (p := ⟨w.heap.size + 1, o, none⟩) (by first | omega | (simp <;> omega)); have f1 := fun o => hb.frozen (p := ⟨w.heap.size + 1, o, none⟩) (by first | omega | (simp <;> omega)); have z1 : w.heap.size + 1 < w'.heap.size := (by omega); have c2 := fun o => hb.cell (p := ⟨w.heap.size + 1 + 1, o, none⟩) (by first | omega | (simp <;> omega)); have f2 := fun o => hb.frozen (p := ⟨w.heap.size + 1 + 1, o, none⟩) (by first | omega | (simp <;> omega)); have z2 : w.heap.size + 1 + 1 < w'.heap.size := (by omega)) | fail)
    rw [HE.out]
    exact bodyPost_ret (v := vVec x y z) (by simp [results, Try.results9, go_sem, *]) rfl ⟨rfl, (by repeat (first | (with_reducible exact Below.refl _ _) | (with_reducible assumption) | ((with_reducible refine Below.alloc ?_ ?_ _); rotate_left; (first | omega | (simp <;> omega))) | ((with_reducible refine Below.setCell ?_ ?_ _); rotate_left; (first | omega | (simp <;> omega))) | (with_reducible refine below_drewN ?_ _) | (with_reducible refine Below.drew ?_) | ((with_reducible refine Below.step (by assumption) ?_ ?_); rotate_left; (first | omega | (simp <;> omega)))))⟩
  case true =>
    have HE : Hid (applyV m0 m1 m2 m3 m4 m5 m6 m7 m8 a b c x y z = addV (part m0 m1 m2 x y z) (part m3 m4 m5 x y z) (part m6 m7 m8 x y z) a b c) := Lib.hid (by unfold applyV; rw [hok]; rfl)
    have HV : Hid (∀ wx, Calls Try.prog 28 #[vTr m0 m1 m2 m3 m4 m5 m6 m7 m8 a b c] wx fun e w' => e = .returned (.bool true) ∧ Below wx.heap.size wx w') := fun wx => by
      have := I_IsValidTransform m0 m1 m2 m3 m4 m5 m6 m7 m8 a b c wx
      rwa [hok] at this
    obtain ⟨hall, _⟩ := okT_true hok
    obtain ⟨rm0, rm1, rm2, rm3, rm4, rm5, rm6, rm7, rm8⟩ := nine_rng hall
    have L0 := lin_abs x y z rm0 rm1 rm2
    have L1 := lin_abs x y z rm3 rm4 rm5
    have L2 := lin_abs x y z rm6 rm7 rm8
    have HD0 : Hid (∀ wx, Calls Try.prog 30 #[vVec m0 m1 m2, vVec x y z] wx fun e w' => e = .returned (.int .i64 (lin m0 m1 m2 x y z)) ∧ Below wx.heap.size wx w') := fun wx => by
      have := I_Dot m0 m1 m2 x y z wx
      rwa [dot_lin x y z rm0 rm1 rm2] at this
    have HD1 : Hid (∀ wx, Calls Try.prog 30 #[vVec m3 m4 m5, vVec x y z] wx fun e w' => e = .returned (.int .i64 (lin m3 m4 m5 x y z)) ∧ Below wx.heap.size wx w') := fun wx => by
      have := I_Dot m3 m4 m5 x y z wx
      rwa [dot_lin x y z rm3 rm4 rm5] at this
    have HD2 : Hid (∀ wx, Calls Try.prog 30 #[vVec m6 m7 m8, vVec x y z] wx fun e w' => e = .returned (.int .i64 (lin m6 m7 m8 x y z)) ∧ Below wx.heap.size wx w') := fun wx => by
      have := I_Dot m6 m7 m8 x y z wx
      rwa [dot_lin x y z rm6 rm7 rm8] at this
    have HG : Hid (bigV (lin m0 m1 m2 x y z) (lin m3 m4 m5 x y z) (lin m6 m7 m8 x y z)) := Lib.hid (by unfold bigV lin; omega)
    rw [show applyV m0 m1 m2 m3 m4 m5 m6 m7 m8 a b c x y z = _ from HE.out]
    unfold part
    generalize lin m0 m1 m2 x y z = l0 at *
    generalize lin m3 m4 m5 x y z = l1 at *
    generalize lin m6 m7 m8 x y z = l2 at *
    clear hok hall rm0 rm1 rm2 rm3 rm4 rm5 rm6 rm7 rm8 L0 L1 L2 HE
    unfold addV
    go_enter Try.func9, Try.ntmps9
    go_wp2_with (first | (go_at_call 28; refine (HV.out _).mono ?_; rintro e w' ⟨rfl, hb⟩; have hz := hb.size; (try simp at hz); have c0 := fun o => hb.cell (p := ⟨w.heap.size, o, none⟩) (by first | omega | (simp <;> omega)); have f0 := fun o => hb.frozen (p := ⟨w.heap.size, o, none⟩) (by first | omega | (simp <;> omega)); have z0 : w.heap.size < w'.heap.size := (by omega); have c1 := fun o => hb.cell (p := ⟨w.heap.size + 1, o, none⟩) (by first | omega | (simp <;> omega)); have f1 := fun o => hb.frozen (p := ⟨w.heap.size + 1, o, none⟩) (by first | omega | (simp <;> omega)); have z1 : w.heap.size + 1 < w'.heap.size := (by omega); have c2 := fun o => hb.cell (p := ⟨w.heap.size + 1 + 1, o, none⟩) (by first | omega | (simp <;> omega)); have f2 := fun o => hb.frozen (p := ⟨w.heap.size + 1 + 1, o, none⟩) (by first | omega | (simp <;> omega)); have z2 : w.heap.size + 1 + 1 < w'.heap.size := (by omega)) | fail)
    obtain ⟨w1, rfl⟩ : ∃ w1, w1 = w' := ⟨_, rfl⟩
    have HBx := Lib.hid (show Below w.heap.size w w1 from (by repeat (first | (with_reducible exact Below.refl _ _) | (with_reducible assumption) | ((with_reducible refine Below.alloc ?_ ?_ _); rotate_left; (first | omega | (simp <;> omega))) | ((with_reducible refine Below.setCell ?_ ?_ _); rotate_left; (first | omega | (simp <;> omega))) | (with_reducible refine below_drewN ?_ _) | (with_reducible refine Below.drew ?_) | ((with_reducible refine Below.step (by assumption) ?_ ?_); rotate_left; (first | omega | (simp <;> omega))))))
    go_region_held3 (fun w' => w'.cell? ⟨w.heap.size, 0, none⟩ = some (.int .i64 m0) ∧ w'.cell? ⟨w.heap.size, 1, none⟩ = some (.int .i64 m1) ∧ w'.cell? ⟨w.heap.size, 2, none⟩ = some (.int .i64 m2) ∧ w'.cell? ⟨w.heap.size, 3, none⟩ = some (.int .i64 m3) ∧ w'.cell? ⟨w.heap.size, 4, none⟩ = some (.int .i64 m4) ∧ w'.cell? ⟨w.heap.size, 5, none⟩ = some (.int .i64 m5) ∧ w'.cell? ⟨w.heap.size, 6, none⟩ = some (.int .i64 m6) ∧ w'.cell? ⟨w.heap.size, 7, none⟩ = some (.int .i64 m7) ∧ w'.cell? ⟨w.heap.size, 8, none⟩ = some (.int .i64 m8) ∧ w'.cell? ⟨w.heap.size, 9, none⟩ = some (.int .i64 a) ∧ w'.cell? ⟨w.heap.size, 10, none⟩ = some (.int .i64 b) ∧ w'.cell? ⟨w.heap.size, 11, none⟩ = some (.int .i64 c) ∧ w'.cell? ⟨w.heap.size + 1, 0, none⟩ = some (.int .i64 x) ∧ w'.cell? ⟨w.heap.size + 1, 1, none⟩ = some (.int .i64 y) ∧ w'.cell? ⟨w.heap.size + 1, 2, none⟩ = some (.int .i64 z))
      (first | ((try dsimp only); refine ⟨?_, ?_, ?_, ?_, ?_, ?_, ?_, ?_, ?_, ?_, ?_, ?_, ?_, ?_, ?_⟩ <;> (go_simp; done)) | go_keep)
      (first | (go_at_call 31; (with_reducible refine (I_row0 m0 m1 m2 m3 m4 m5 m6 m7 m8 a b c _).mono ?_); rintro e w' ⟨rfl, hb⟩; have hz := hb.size; (try simp at hz); have c0 := fun o => hb.cell (p := ⟨w.heap.size, o, none⟩) (by first | omega | (simp <;> omega)); have f0 := fun o => hb.frozen (p := ⟨w.heap.size, o, none⟩) (by first | omega | (simp <;> omega)); have z0 : w.heap.size < w'.heap.size := (by omega); have c1 := fun o => hb.cell (p := ⟨w.heap.size + 1, o, none⟩) (by first | omega | (simp <;> omega)); have f1 := fun o => hb.frozen (p := ⟨w.heap.size + 1, o, none⟩) (by first | omega | (simp <;> omega)); have z1 : w.heap.size + 1 < w'.heap.size := (by omega); have c2 := fun o => hb.cell (p := ⟨w.heap.size + 1 + 1, o, none⟩) (by first | omega | (simp <;> omega)); have f2 := fun o => hb.frozen (p := ⟨w.heap.size + 1 + 1, o, none⟩) (by first | omega | (simp <;> omega)); have z2 : w.heap.size + 1 + 1 < w'.heap.size := (by omega)) | (go_at_call 31; (with_reducible refine (I_row1 m0 m1 m2 m3 m4 m5 m6 m7 m8 a b c _).mono ?_); rintro e w' ⟨rfl, hb⟩; have hz := hb.size; (try simp at hz); have c0 := fun o => hb.cell (p := ⟨w.heap.size, o, none⟩) (by first | omega | (simp <;> omega)); have f0 := fun o => hb.frozen (p := ⟨w.heap.size, o, none⟩) (by first | omega | (simp <;> omega)); have z0 : w.heap.size < w'.heap.size := (by omega); have c1 := fun o => hb.cell (p := ⟨w.heap.size + 1, o, none⟩) (by first | omega | (simp <;> omega)); have f1 := fun o => hb.frozen (p := ⟨w.heap.size + 1, o, none⟩) (by first | omega | (simp <;> omega)); have z1 : w.heap.size + 1 < w'.heap.size := (by omega); have c2 := fun o => hb.cell (p := ⟨w.heap.size + 1 + 1, o, none⟩) (by first | omega | (simp <;> omega)); have f2 := fun o => hb.frozen (p := ⟨w.heap.size + 1 + 1, o, none⟩) (by first | omega | (simp <;> omega)); have z2 : w.heap.size + 1 + 1 < w'.heap.size := (by omega)) | (go_at_call 31; (with_reducible refine (I_row2 m0 m1 m2 m3 m4 m5 m6 m7 m8 a b c _).mono ?_); rintro e w' ⟨rfl, hb⟩; have hz := hb.size; (try simp at hz); have c0 := fun o => hb.cell (p := ⟨w.heap.size, o, none⟩) (by first | omega | (simp <;> omega)); have f0 := fun o => hb.frozen (p := ⟨w.heap.size, o, none⟩) (by first | omega | (simp <;> omega)); have z0 : w.heap.size < w'.heap.size := (by omega); have c1 := fun o => hb.cell (p := ⟨w.heap.size + 1, o, none⟩) (by first | omega | (simp <;> omega)); have f1 := fun o => hb.frozen (p := ⟨w.heap.size + 1, o, none⟩) (by first | omega | (simp <;> omega)); have z1 : w.heap.size + 1 < w'.heap.size := (by omega); have c2 := fun o => hb.cell (p := ⟨w.heap.size + 1 + 1, o, none⟩) (by first | omega | (simp <;> omega)); have f2 := fun o => hb.frozen (p := ⟨w.heap.size + 1 + 1, o, none⟩) (by first | omega | (simp <;> omega)); have z2 : w.heap.size + 1 + 1 < w'.heap.size := (by omega)) | (go_at_call 30; (with_reducible refine (HD0.out _).mono ?_); rintro e w' ⟨rfl, hb⟩; have hz := hb.size; (try simp at hz); have c0 := fun o => hb.cell (p := ⟨w.heap.size, o, none⟩) (by first | omega | (simp <;> omega)); have f0 := fun o => hb.frozen (p := ⟨w.heap.size, o, none⟩) (by first | omega | (simp <;> omega)); have z0 : w.heap.size < w'.heap.size := (by omega); have c1 := fun o => hb.cell (p := ⟨w.heap.size + 1, o, none⟩) (by first | omega | (simp <;> omega)); have f1 := fun o => hb.frozen (p := ⟨w.heap.size + 1, o, none⟩) (by first | omega | (simp <;> omega)); have z1 : w.heap.size + 1 < w'.heap.size := (by omega); have c2 := fun o => hb.cell (p := ⟨w.heap.size + 1 + 1, o, none⟩) (by first | omega | (simp <;> omega)); have f2 := fun o => hb.frozen (p := ⟨w.heap.size + 1 + 1, o, none⟩) (by first | omega | (simp <;> omega)); have z2 : w.heap.size + 1 + 1 < w'.heap.size := (by omega)) | (go_at_call 30; (with_reducible refine (HD1.out _).mono ?_); rintro e w' ⟨rfl, hb⟩; have hz := hb.size; (try simp at hz); have c0 := fun o => hb.cell (p := ⟨w.heap.size, o, none⟩) (by first | omega | (simp <;> omega)); have f0 := fun o => hb.frozen (p := ⟨w.heap.size, o, none⟩) (by first | omega | (simp <;> omega)); have z0 : w.heap.size < w'.heap.size := (by omega); have c1 := fun o => hb.cell (p := ⟨w.heap.size + 1, o, none⟩) (by first | omega | (simp <;> omega)); have f1 := fun o => hb.frozen (p := ⟨w.heap.size + 1, o, none⟩) (by first | omega | (simp <;> omega)); have z1 : w.heap.size + 1 < w'.heap.size := (by omega); have c2 := fun o => hb.cell (p := ⟨w.heap.size + 1 + 1, o, none⟩) (by first | omega | (simp <;> omega)); have f2 := fun o => hb.frozen (p := ⟨w.heap.size + 1 + 1, o, none⟩) (by first | omega | (simp <;> omega)); have z2 : w.heap.size + 1 + 1 < w'.heap.size := (by omega)) | (go_at_call 30; (with_reducible refine (HD2.out _).mono ?_); rintro e w' ⟨rfl, hb⟩; have hz := hb.size; (try simp at hz); have c0 := fun o => hb.cell (p := ⟨w.heap.size, o, none⟩) (by first | omega | (simp <;> omega)); have f0 := fun o => hb.frozen (p := ⟨w.heap.size, o, none⟩) (by first | omega | (simp <;> omega)); have z0 : w.heap.size < w'.heap.size := (by omega); have c1 := fun o => hb.cell (p := ⟨w.heap.size + 1, o, none⟩) (by first | omega | (simp <;> omega)); have f1 := fun o => hb.frozen (p := ⟨w.heap.size + 1, o, none⟩) (by first | omega | (simp <;> omega)); have z1 : w.heap.size + 1 < w'.heap.size := (by omega); have c2 := fun o => hb.cell (p := ⟨w.heap.size + 1 + 1, o, none⟩) (by first | omega | (simp <;> omega)); have f2 := fun o => hb.frozen (p := ⟨w.heap.size + 1 + 1, o, none⟩) (by first | omega | (simp <;> omega)); have z2 : w.heap.size + 1 + 1 < w'.heap.size := (by omega)) | (go_at_call 32; (with_reducible refine (I_over _ _ _ 16 _ HG.out).mono ?_); rintro e w' ⟨rfl, hb⟩; have hz := hb.size; (try simp at hz); have c0 := fun o => hb.cell (p := ⟨w.heap.size, o, none⟩) (by first | omega | (simp <;> omega)); have f0 := fun o => hb.frozen (p := ⟨w.heap.size, o, none⟩) (by first | omega | (simp <;> omega)); have z0 : w.heap.size < w'.heap.size := (by omega); have c1 := fun o => hb.cell (p := ⟨w.heap.size + 1, o, none⟩) (by first | omega | (simp <;> omega)); have f1 := fun o => hb.frozen (p := ⟨w.heap.size + 1, o, none⟩) (by first | omega | (simp <;> omega)); have z1 : w.heap.size + 1 < w'.heap.size := (by omega); have c2 := fun o => hb.cell (p := ⟨w.heap.size + 1 + 1, o, none⟩) (by first | omega | (simp <;> omega)); have f2 := fun o => hb.frozen (p := ⟨w.heap.size + 1 + 1, o, none⟩) (by first | omega | (simp <;> omega)); have z2 : w.heap.size + 1 + 1 < w'.heap.size := (by omega)) | (go_at_call 29; (with_reducible refine (I_AddV _ _ _ _ _ _ _).mono ?_); rintro e w' ⟨rfl, hb⟩; have hz := hb.size; (try simp at hz); have c0 := fun o => hb.cell (p := ⟨w.heap.size, o, none⟩) (by first | omega | (simp <;> omega)); have f0 := fun o => hb.frozen (p := ⟨w.heap.size, o, none⟩) (by first | omega | (simp <;> omega)); have z0 : w.heap.size < w'.heap.size := (by omega); have c1 := fun o => hb.cell (p := ⟨w.heap.size + 1, o, none⟩) (by first | omega | (simp <;> omega)); have f1 := fun o => hb.frozen (p := ⟨w.heap.size + 1, o, none⟩) (by first | omega | (simp <;> omega)); have z1 : w.heap.size + 1 < w'.heap.size := (by omega); have c2 := fun o => hb.cell (p := ⟨w.heap.size + 1 + 1, o, none⟩) (by first | omega | (simp <;> omega)); have f2 := fun o => hb.frozen (p := ⟨w.heap.size + 1 + 1, o, none⟩) (by first | omega | (simp <;> omega)); have z2 : w.heap.size + 1 + 1 < w'.heap.size := (by omega)) | fail)
    all_goals
      go_wp2
      refine bodyPost_ret (v := vVec (cl (cl (fdivF l0 16) + cl a)) (cl (cl (fdivF l1 16) + cl b)) (cl (cl (fdivF l2 16) + cl c))) (by simp [results, Try.results9, go_sem, *]) rfl ⟨rfl, (by repeat (first | (with_reducible exact Below.refl _ _) | (with_reducible assumption) | ((with_reducible refine Below.alloc ?_ ?_ _); rotate_left; (first | omega | (simp <;> omega))) | ((with_reducible refine Below.setCell ?_ ?_ _); rotate_left; (first | omega | (simp <;> omega))) | (with_reducible refine below_drewN ?_ _) | (with_reducible refine Below.drew ?_) | ((with_reducible refine Below.step (by assumption) ?_ ?_); rotate_left; (first | omega | (simp <;> omega)))))⟩
end Go.Proofs.Ytaeajeclbcodeaa
