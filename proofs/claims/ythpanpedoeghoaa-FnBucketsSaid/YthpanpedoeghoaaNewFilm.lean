/- NewFilm of the reference and of the program. -/
import Derived.Test.YthpanpedoeghoaaNewRows
import Derived.Test.YthpanpedoeghoaaMade
set_option linter.unusedVariables false
set_option linter.unusedSimpArgs false
set_option linter.unnecessarySimpa false
namespace Go.Proofs.Ythpanpedoeghoaa
open Go.RowKit
set_option linter.unusedVariables false
theorem zeros_bools (n : Nat) : (madeCells #[Value.bool false] n).toList = bools (List.replicate n false) := by rw [toList_madeCells_one]; simp [bools]
theorem ints_rep (n : Nat) : (ints (List.replicate n 0)).length = n * 1 := by simp
theorem bools_rep (n : Nat) : (bools (List.replicate n false)).length = n * 1 := by simp
def NewFilmR (ok : Bool) (a b : Int) (n : Nat) (w : World) : Ending → World → Prop :=
  MadeFilm (fun s0 s1 => .tuple #[vFilm (if ok then a else 0) (if ok then b else 0) s0 s1, .bool ok]) (if ok then n else 0) (ints (List.replicate (if ok then n else 0) 0)) (if ok then n else 0) (bools (List.replicate (if ok then n else 0) false)) w
set_option maxHeartbeats 8000000 in
theorem I_NewFilm {a b c d : Int} {e : Bool} {f g : Int} {n : Nat} (w : World) (hn : validCam a b c d f g = true → a * b = n ∧ n ≤ 144) :
    Calls Try.prog 7 #[vCamera a b c d e f g] w (NewFilmR (validCam a b c d f g) a b n w) := by
  by_cases hv : validCam a b c d f g = true
  case neg =>
    have hv' : validCam a b c d f g = false := by simpa using hv
    have HV : Hid (NewFilmR (validCam a b c d f g) a b n w = NewFilmR false a b n w) := by show _ = _; rw [hv']
    clear hv hn
    go_enter Try.func7, Try.ntmps7
    go_wp2_with (go_at_call 14; refine (I_IsValidCamera _).mono ?_; rintro e w' ⟨rfl, hb⟩; have hz := hb.size; (try simp at hz); have c0 := fun o => hb.cell (p := ⟨w.heap.size, o, none⟩) (by first | omega | (simp <;> omega)); have f0 := fun o => hb.frozen (p := ⟨w.heap.size, o, none⟩) (by first | omega | (simp <;> omega)); have z0 : w.heap.size < w'.heap.size := (by omega); have c1 := fun o => hb.cell (p := ⟨w.heap.size + 1, o, none⟩) (by first | omega | (simp <;> omega)); have f1 := fun o => hb.frozen (p := ⟨w.heap.size + 1, o, none⟩) (by first | omega | (simp <;> omega)); have z1 : w.heap.size + 1 < w'.heap.size := (by omega))
    rw [HV.out]
    exact bodyPost_ret (v := .tuple #[vFilm 0 0 (.slice none 0 0) (.slice none 0 0), .bool false]) (by simp [results, Try.results7, go_sem, *]) rfl ⟨none, 0, none, 0, rfl, OwnS.none_ _ _ _, OwnS.none_ _ _ _, fun x hx => absurd hx (by simp [gOf]), fun x hx => absurd hx (by simp [gOf]), fun x hx => absurd hx (by simp [gOf]), (by repeat (first | (with_reducible exact Below.refl _ _) | (with_reducible assumption) | ((with_reducible refine Below.alloc ?_ ?_ _); rotate_left; (first | omega | (simp <;> omega))) | ((with_reducible refine Below.setCell ?_ ?_ _); rotate_left; (first | omega | (simp <;> omega))) | (with_reducible refine below_drewN ?_ _) | (with_reducible refine Below.drew ?_) | ((with_reducible refine Below.step (by assumption) ?_ ?_); rotate_left; (first | omega | (simp <;> omega)))))⟩
  case pos =>
    obtain ⟨hn1, hn2⟩ := hn hv
    have hp : IntKind.i64.wrap (a * b) = a * b := IntWalk.i64_in _ (by omega)
    have hmk : ∀ wx : World, (Instr.makeSlice 29 (.int .i64 (a * b)) (.int .i64 (a * b))).run Try.prog wx = .ok (.slice (some ⟨wx.heap.size, 0, none⟩) n n) (wx.alloc (.cells (madeCells #[Value.int .i64 0] n) 3)) := by
      intro wx
      rw [hn1]
      have := run_mk (P := Try.prog) 29 3 _ 1 8 Try.underlying29 T.infoInt n (by omega) (by omega) wx
      simp only [Nat.mul_one] at this
      exact this
    have hmk2 : ∀ wx : World, (Instr.makeSlice 30 (.int .i64 (a * b)) (.int .i64 (a * b))).run Try.prog wx = .ok (.slice (some ⟨wx.heap.size, 0, none⟩) n n) (wx.alloc (.cells (madeCells #[Value.bool false] n) 4)) := by
      intro wx
      rw [hn1]
      have := run_mk (P := Try.prog) 30 4 _ 1 1 Try.underlying30 T.infoBool n (by omega) (by omega) wx
      simp only [Nat.mul_one] at this
      exact this
    have HV : Hid (NewFilmR (validCam a b c d f g) a b n w = NewFilmR true a b n w) := by show _ = _; rw [hv]
    clear hn hn1
    go_enter Try.func7, Try.ntmps7
    go_wp2_with (go_at_call 14; refine (I_IsValidCamera _).mono ?_; rintro e w' ⟨rfl, hb⟩; have hz := hb.size; (try simp at hz); have c0 := fun o => hb.cell (p := ⟨w.heap.size, o, none⟩) (by first | omega | (simp <;> omega)); have f0 := fun o => hb.frozen (p := ⟨w.heap.size, o, none⟩) (by first | omega | (simp <;> omega)); have z0 : w.heap.size < w'.heap.size := (by omega); have c1 := fun o => hb.cell (p := ⟨w.heap.size + 1, o, none⟩) (by first | omega | (simp <;> omega)); have f1 := fun o => hb.frozen (p := ⟨w.heap.size + 1, o, none⟩) (by first | omega | (simp <;> omega)); have z1 : w.heap.size + 1 < w'.heap.size := (by omega))
    go_region_held3 (fun w' => w'.cell? ⟨w.heap.size, 0, none⟩ = some (.int .i64 a) ∧ w'.cell? ⟨w.heap.size, 1, none⟩ = some (.int .i64 b))
      (first | ((try dsimp only); refine ⟨?_, ?_⟩ <;> (go_simp; done)) | go_keep)
      (fail)
    · go_wp2
      rw [HV.out]
      refine bodyPost_ret (v := .tuple #[vFilm a b (sl w'.heap.size n) (sl (w'.heap.size + 1) n), .bool true]) (by have zz : w.heap.size + 1 < w'.heap.size + 1 := Nat.lt_succ_of_lt z1; simp [results, Try.results7, go_sem, *]) rfl ⟨_, _, _, _, rfl, OwnS.some_ ?_ (ints_rep n) (show n ≤ 1048576 by omega), OwnS.some_ ?_ (bools_rep n) (show n ≤ 1048576 by omega), (fun x hx => by simp [gOf] at hx; omega), (fun x hx => by simp [gOf] at hx; omega), (fun x hx hy => by simp [gOf] at hx hy; omega), (by repeat (first | (with_reducible exact Below.refl _ _) | (with_reducible assumption) | ((with_reducible refine Below.alloc ?_ ?_ _); rotate_left; (first | omega | (simp <;> omega))) | ((with_reducible refine Below.setCell ?_ ?_ _); rotate_left; (first | omega | (simp <;> omega))) | (with_reducible refine below_drewN ?_ _) | (with_reducible refine Below.drew ?_) | ((with_reducible refine Below.step (by assumption) ?_ ?_); rotate_left; (first | omega | (simp <;> omega)))))⟩
      · rw [if_pos rfl, ← zeros_ints]; (with_reducible refine Own.drew (Own.alloc (Own.at_new ?_) _)); simp
      · rw [if_pos rfl, ← zeros_bools]; (with_reducible refine Own.drew (Own.at_new ?_)); simp
    · go_wp2
      rw [HV.out]
      refine bodyPost_ret (v := .tuple #[vFilm a b (sl (w'.heap.size + 1) n) (sl w'.heap.size n), .bool true]) (by have zz : w.heap.size + 1 < w'.heap.size + 1 := Nat.lt_succ_of_lt z1; simp [results, Try.results7, go_sem, *]) rfl ⟨_, _, _, _, rfl, OwnS.some_ ?_ (ints_rep n) (show n ≤ 1048576 by omega), OwnS.some_ ?_ (bools_rep n) (show n ≤ 1048576 by omega), (fun x hx => by simp [gOf] at hx; omega), (fun x hx => by simp [gOf] at hx; omega), (fun x hx hy => by simp [gOf] at hx hy; omega), (by repeat (first | (with_reducible exact Below.refl _ _) | (with_reducible assumption) | ((with_reducible refine Below.alloc ?_ ?_ _); rotate_left; (first | omega | (simp <;> omega))) | ((with_reducible refine Below.setCell ?_ ?_ _); rotate_left; (first | omega | (simp <;> omega))) | (with_reducible refine below_drewN ?_ _) | (with_reducible refine Below.drew ?_) | ((with_reducible refine Below.step (by assumption) ?_ ?_); rotate_left; (first | omega | (simp <;> omega)))))⟩
      · rw [if_pos rfl, ← zeros_ints]; (with_reducible refine Own.drew (Own.at_new ?_)); simp
      · rw [if_pos rfl, ← zeros_bools]; (with_reducible refine Own.drew (Own.alloc (Own.at_new ?_) _)); simp
end Go.Proofs.Ythpanpedoeghoaa
