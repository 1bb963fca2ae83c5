/- The law FnExactFilterWindow. -/
import Derived.Test.YtckhdnigbddnkaaWindowS
import Derived.Deep.DeepCutAuto
namespace Go.Proofs.Ytckhdnigbddnkaa
open Go.ChangeShapes Go.WideShapes Go.ChangeAt Go.RowKit
set_option linter.unusedVariables false
theorem winV_form (k r a b c d f g i j : Int) : ∃ p q u v, winV k r a b c d f g i j = vBucket p q u v := by
  unfold winV
  split
  · exact ⟨_, _, _, _, rfl⟩
  · exact ⟨_, _, _, _, rfl⟩
theorem S_FilterWindow' {k r a b c d : Int} {e : Bool} {f g i j p q u v : Int} (hv : Hid (winV k r a b c d f g i j = vBucket p q u v)) (w : World) :
    Calls Try.prog 34 #[vFilter k r, vCamera a b c d e f g, .int .i64 i, .int .i64 j] w fun x w' => x = .returned (vBucket p q u v) ∧ Below w.heap.size w w' := by
  have := S_FilterWindow (k := k) (r := r) (a := a) (b := b) (c := c) (d := d) (e := e) (f := f) (g := g) (i := i) (j := j) w
  rwa [hv.out] at this
theorem I_FilterWindow' {k r a b c d : Int} {e : Bool} {f g i j p q u v : Int} (hv : Hid (winV k r a b c d f g i j = vBucket p q u v)) (w : World) :
    Calls Try.prog 36 #[vFilter k r, vCamera a b c d e f g, .int .i64 i, .int .i64 j] w fun x w' => x = .returned (vBucket p q u v) ∧ Below w.heap.size w w' := by
  have := I_FilterWindow (k := k) (r := r) (a := a) (b := b) (c := c) (d := d) (e := e) (f := f) (g := g) (i := i) (j := j) w
  rwa [hv.out] at this
set_option maxHeartbeats 4000000 in
theorem L_ExFilterWindow (k r a b c d : Int) (e : Bool) (f g i j : Int) (w : World) :
    Calls Try.prog 9 #[vFilter k r, vCamera a b c d e f g, .int .i64 i, .int .i64 j] w fun x w' => x = .returned (.bool true) ∧ Below w.heap.size w w' := by
  obtain ⟨p, q, u, v, hv⟩ := winV_form k r a b c d f g i j
  have HV := Lib.hid hv
  have hne0 : ¬ w.heap.size = w.heap.size + 1 + 1 := by omega
  have hne1 : ¬ w.heap.size + 1 + 1 = w.heap.size := by omega
  have hne2 : ¬ w.heap.size + 1 = w.heap.size + 1 + 1 := by omega
  have hne3 : ¬ w.heap.size + 1 + 1 = w.heap.size + 1 := by omega
  clear hv
  go_enter Try.func9, Try.ntmps9
  go_upto_region 1 with fail
  go_cut [9] (fun s9 wx => ∃ g' : Nat, s9 = .pointer (some ⟨g', 0, none⟩) ∧ wx.cell? ⟨g', 0, none⟩ = some (.int .i64 p) ∧ wx.cell? ⟨g', 1, none⟩ = some (.int .i64 q) ∧ wx.cell? ⟨g', 2, none⟩ = some (.int .i64 u) ∧ wx.cell? ⟨g', 3, none⟩ = some (.int .i64 v) ∧ Below w.heap.size w wx ∧ w.heap.size + 1 < g' ∧ g' < wx.heap.size ∧ wx.cell? ⟨w.heap.size, 0, none⟩ = some (.int .i64 k) ∧ wx.cell? ⟨w.heap.size, 1, none⟩ = some (.int .i64 r) ∧ wx.cell? ⟨w.heap.size + 1, 0, none⟩ = some (.int .i64 a) ∧ wx.cell? ⟨w.heap.size + 1, 1, none⟩ = some (.int .i64 b) ∧ wx.cell? ⟨w.heap.size + 1, 2, none⟩ = some (.int .i64 c) ∧ wx.cell? ⟨w.heap.size + 1, 3, none⟩ = some (.int .i64 d) ∧ wx.cell? ⟨w.heap.size + 1, 4, none⟩ = some (.bool e) ∧ wx.cell? ⟨w.heap.size + 1, 5, none⟩ = some (.int .i64 f) ∧ wx.cell? ⟨w.heap.size + 1, 6, none⟩ = some (.int .i64 g))
  case first =>
    go_region_held3 (fun w' => w'.cell? ⟨w.heap.size, 0, none⟩ = some (.int .i64 k) ∧ w'.cell? ⟨w.heap.size, 1, none⟩ = some (.int .i64 r) ∧ w'.cell? ⟨w.heap.size + 1, 0, none⟩ = some (.int .i64 a) ∧ w'.cell? ⟨w.heap.size + 1, 1, none⟩ = some (.int .i64 b) ∧ w'.cell? ⟨w.heap.size + 1, 2, none⟩ = some (.int .i64 c) ∧ w'.cell? ⟨w.heap.size + 1, 3, none⟩ = some (.int .i64 d) ∧ w'.cell? ⟨w.heap.size + 1, 4, none⟩ = some (.bool e) ∧ w'.cell? ⟨w.heap.size + 1, 5, none⟩ = some (.int .i64 f) ∧ w'.cell? ⟨w.heap.size + 1, 6, none⟩ = some (.int .i64 g))
      (first | go_keep | (dsimp only; refine ⟨?_, ?_, ?_, ?_, ?_, ?_, ?_, ?_, ?_⟩ <;> go_simp))
      (first | (go_at_call 18; refine (L_toFilter _ _ _).mono ?_; rintro e w' ⟨rfl, hb⟩; have hz := hb.size; (try simp at hz); have c0 := fun o => hb.cell (p := ⟨w.heap.size, o, none⟩) (by first | omega | (simp <;> omega)); have f0 := fun o => hb.frozen (p := ⟨w.heap.size, o, none⟩) (by first | omega | (simp <;> omega)); have z0 : w.heap.size < w'.heap.size := (by omega); have c1 := fun o => hb.cell (p := ⟨w.heap.size + 1, o, none⟩) (by first | omega | (simp <;> omega)); have f1 := fun o => hb.frozen (p := ⟨w.heap.size + 1, o, none⟩) (by first | omega | (simp <;> omega)); have z1 : w.heap.size + 1 < w'.heap.size := (by omega); have e0 : ¬ w.heap.size = w'.heap.size := (by omega); have e1 : ¬ w.heap.size + 1 = w'.heap.size := (by omega); have e2 : ¬ w'.heap.size = w.heap.size := (by omega); have e3 : ¬ w'.heap.size = w.heap.size + 1 := (by omega); (try (refine with_box hb (w.heap.size + 1 + 1) ?_ ?_; (first | omega | (simp <;> omega)); intro n0 nf0 nz0)); obtain ⟨wA, rfl⟩ : ∃ wA, wA = w' := ⟨_, rfl⟩) | (go_at_call 35; refine (L_toCamera _ _ _ _ _ _ _ _).mono ?_; rintro e w' ⟨rfl, hb⟩; have hz := hb.size; (try simp at hz); have c0 := fun o => hb.cell (p := ⟨w.heap.size, o, none⟩) (by first | omega | (simp <;> omega)); have f0 := fun o => hb.frozen (p := ⟨w.heap.size, o, none⟩) (by first | omega | (simp <;> omega)); have z0 : w.heap.size < w'.heap.size := (by omega); have c1 := fun o => hb.cell (p := ⟨w.heap.size + 1, o, none⟩) (by first | omega | (simp <;> omega)); have f1 := fun o => hb.frozen (p := ⟨w.heap.size + 1, o, none⟩) (by first | omega | (simp <;> omega)); have z1 : w.heap.size + 1 < w'.heap.size := (by omega); have e0 : ¬ w.heap.size = w'.heap.size := (by omega); have e1 : ¬ w.heap.size + 1 = w'.heap.size := (by omega); have e2 : ¬ w'.heap.size = w.heap.size := (by omega); have e3 : ¬ w'.heap.size = w.heap.size + 1 := (by omega); (try (refine with_box hb (w.heap.size + 1 + 1) ?_ ?_; (first | omega | (simp <;> omega)); intro n1 nf1 nz1)); (try (refine with_box hb (wA.heap.size) ?_ ?_; (first | omega | (simp <;> omega)); intro n2 nf2 nz2)); obtain ⟨wB, rfl⟩ : ∃ wB, wB = w' := ⟨_, rfl⟩) | (go_at_call 34; refine (S_FilterWindow' HV _).mono ?_; rintro e w' ⟨rfl, hb⟩; have hz := hb.size; (try simp at hz); have c0 := fun o => hb.cell (p := ⟨w.heap.size, o, none⟩) (by first | omega | (simp <;> omega)); have f0 := fun o => hb.frozen (p := ⟨w.heap.size, o, none⟩) (by first | omega | (simp <;> omega)); have z0 : w.heap.size < w'.heap.size := (by omega); have c1 := fun o => hb.cell (p := ⟨w.heap.size + 1, o, none⟩) (by first | omega | (simp <;> omega)); have f1 := fun o => hb.frozen (p := ⟨w.heap.size + 1, o, none⟩) (by first | omega | (simp <;> omega)); have z1 : w.heap.size + 1 < w'.heap.size := (by omega); have e0 : ¬ w.heap.size = w'.heap.size := (by omega); have e1 : ¬ w.heap.size + 1 = w'.heap.size := (by omega); have e2 : ¬ w'.heap.size = w.heap.size := (by omega); have e3 : ¬ w'.heap.size = w.heap.size + 1 := (by omega); (try (refine with_box hb (w.heap.size + 1 + 1) ?_ ?_; (first | omega | (simp <;> omega)); intro n3 nf3 nz3)); (try (refine with_box hb (wA.heap.size) ?_ ?_; (first | omega | (simp <;> omega)); intro n4 nf4 nz4)); (try (refine with_box hb (wB.heap.size) ?_ ?_; (first | omega | (simp <;> omega)); intro n5 nf5 nz5)); obtain ⟨wC, rfl⟩ : ∃ wC, wC = w' := ⟨_, rfl⟩))
    all_goals
      go_wp2_with fail
      go_meet
      refine ⟨_, rfl, ?_, ?_, ?_, ?_, (by repeat (first | (with_reducible exact Below.refl _ _) | (with_reducible assumption) | ((with_reducible refine Below.alloc ?_ ?_ _); rotate_left; (first | omega | (simp <;> omega))) | ((with_reducible refine Below.setCell ?_ ?_ _); rotate_left; (first | omega | (simp <;> omega))) | (with_reducible refine below_drewN ?_ _) | (with_reducible refine Below.drew ?_) | ((with_reducible refine Below.step (by assumption) ?_ ?_); rotate_left; (first | omega | (simp <;> omega))))), ?_, ?_, ?_, ?_, ?_, ?_, ?_, ?_, ?_, ?_, ?_⟩
      all_goals (first | (go_simp; done) | (simp <;> omega))
  case rest =>
    obtain ⟨g1, rfl, t0, t1, t2, t3, hB, hg1, hg1', s0, s1, s2, s3, s4, s5, s6, s7, s8⟩ := hcut
    have hz0 : w.heap.size + 1 < wc.heap.size := by omega
    have x0 : ¬ w.heap.size = wc.heap.size := by omega
    have x0' : ¬ wc.heap.size = w.heap.size := by omega
    have x1 : ¬ w.heap.size + 1 = wc.heap.size := by omega
    have x1' : ¬ wc.heap.size = w.heap.size + 1 := by omega
    have x2 : ¬ g1 = wc.heap.size := by omega
    have x2' : ¬ wc.heap.size = g1 := by omega
    go_upto_region 2 with fail
    go_cut [10] (fun s10 wx => ∃ g' : Nat, s10 = .pointer (some ⟨g', 0, none⟩) ∧ wx.cell? ⟨g', 0, none⟩ = some (.int .i64 p) ∧ wx.cell? ⟨g', 1, none⟩ = some (.int .i64 q) ∧ wx.cell? ⟨g', 2, none⟩ = some (.int .i64 u) ∧ wx.cell? ⟨g', 3, none⟩ = some (.int .i64 v) ∧ Below w.heap.size w wx ∧ wx.cell? ⟨g1, 0, none⟩ = some (.int .i64 p) ∧ wx.cell? ⟨g1, 1, none⟩ = some (.int .i64 q) ∧ wx.cell? ⟨g1, 2, none⟩ = some (.int .i64 u) ∧ wx.cell? ⟨g1, 3, none⟩ = some (.int .i64 v))
    case first =>
      go_region_held3 (fun w' => w'.cell? ⟨w.heap.size, 0, none⟩ = some (.int .i64 k) ∧ w'.cell? ⟨w.heap.size, 1, none⟩ = some (.int .i64 r) ∧ w'.cell? ⟨w.heap.size + 1, 0, none⟩ = some (.int .i64 a) ∧ w'.cell? ⟨w.heap.size + 1, 1, none⟩ = some (.int .i64 b) ∧ w'.cell? ⟨w.heap.size + 1, 2, none⟩ = some (.int .i64 c) ∧ w'.cell? ⟨w.heap.size + 1, 3, none⟩ = some (.int .i64 d) ∧ w'.cell? ⟨w.heap.size + 1, 4, none⟩ = some (.bool e) ∧ w'.cell? ⟨w.heap.size + 1, 5, none⟩ = some (.int .i64 f) ∧ w'.cell? ⟨w.heap.size + 1, 6, none⟩ = some (.int .i64 g) ∧ w'.cell? ⟨g1, 0, none⟩ = some (.int .i64 p) ∧ w'.cell? ⟨g1, 1, none⟩ = some (.int .i64 q) ∧ w'.cell? ⟨g1, 2, none⟩ = some (.int .i64 u) ∧ w'.cell? ⟨g1, 3, none⟩ = some (.int .i64 v))
        (first | go_keep | (dsimp only; refine ⟨?_, ?_, ?_, ?_, ?_, ?_, ?_, ?_, ?_, ?_, ?_, ?_, ?_⟩ <;> go_simp))
        (first | (go_at_call 18; refine (L_toFilter _ _ _).mono ?_; rintro e w' ⟨rfl, hb⟩; have hz := hb.size; (try simp at hz); have c0 := fun o => hb.cell (p := ⟨w.heap.size, o, none⟩) (by first | omega | (simp <;> omega)); have f0 := fun o => hb.frozen (p := ⟨w.heap.size, o, none⟩) (by first | omega | (simp <;> omega)); have z0 : w.heap.size < w'.heap.size := (by omega); have c1 := fun o => hb.cell (p := ⟨w.heap.size + 1, o, none⟩) (by first | omega | (simp <;> omega)); have f1 := fun o => hb.frozen (p := ⟨w.heap.size + 1, o, none⟩) (by first | omega | (simp <;> omega)); have z1 : w.heap.size + 1 < w'.heap.size := (by omega); refine with_box hb g1 ?_ ?_; (first | omega | (simp <;> omega)); intro ng nfg nzg; have e0 : ¬ w.heap.size = w'.heap.size := (by omega); have e0' : ¬ w'.heap.size = w.heap.size := (by omega); have e1 : ¬ w.heap.size + 1 = w'.heap.size := (by omega); have e1' : ¬ w'.heap.size = w.heap.size + 1 := (by omega); have e2 : ¬ g1 = w'.heap.size := (by omega); have e2' : ¬ w'.heap.size = g1 := (by omega); (try (refine with_box hb (wc.heap.size) ?_ ?_; (first | omega | (simp <;> omega)); intro n0 nf0 nz0)); obtain ⟨wA, rfl⟩ : ∃ wA, wA = w' := ⟨_, rfl⟩) | (go_at_call 35; refine (L_toCamera _ _ _ _ _ _ _ _).mono ?_; rintro e w' ⟨rfl, hb⟩; have hz := hb.size; (try simp at hz); have c0 := fun o => hb.cell (p := ⟨w.heap.size, o, none⟩) (by first | omega | (simp <;> omega)); have f0 := fun o => hb.frozen (p := ⟨w.heap.size, o, none⟩) (by first | omega | (simp <;> omega)); have z0 : w.heap.size < w'.heap.size := (by omega); have c1 := fun o => hb.cell (p := ⟨w.heap.size + 1, o, none⟩) (by first | omega | (simp <;> omega)); have f1 := fun o => hb.frozen (p := ⟨w.heap.size + 1, o, none⟩) (by first | omega | (simp <;> omega)); have z1 : w.heap.size + 1 < w'.heap.size := (by omega); refine with_box hb g1 ?_ ?_; (first | omega | (simp <;> omega)); intro ng nfg nzg; have e0 : ¬ w.heap.size = w'.heap.size := (by omega); have e0' : ¬ w'.heap.size = w.heap.size := (by omega); have e1 : ¬ w.heap.size + 1 = w'.heap.size := (by omega); have e1' : ¬ w'.heap.size = w.heap.size + 1 := (by omega); have e2 : ¬ g1 = w'.heap.size := (by omega); have e2' : ¬ w'.heap.size = g1 := (by omega); (try (refine with_box hb (wc.heap.size) ?_ ?_; (first | omega | (simp <;> omega)); intro n1 nf1 nz1)); (try (refine with_box hb (wA.heap.size) ?_ ?_; (first | omega | (simp <;> omega)); intro n2 nf2 nz2)); obtain ⟨wB, rfl⟩ : ∃ wB, wB = w' := ⟨_, rfl⟩) | (go_at_call 36; refine (I_FilterWindow' HV _).mono ?_; rintro e w' ⟨rfl, hb⟩; have hz := hb.size; (try simp at hz); have c0 := fun o => hb.cell (p := ⟨w.heap.size, o, none⟩) (by first | omega | (simp <;> omega)); have f0 := fun o => hb.frozen (p := ⟨w.heap.size, o, none⟩) (by first | omega | (simp <;> omega)); have z0 : w.heap.size < w'.heap.size := (by omega); have c1 := fun o => hb.cell (p := ⟨w.heap.size + 1, o, none⟩) (by first | omega | (simp <;> omega)); have f1 := fun o => hb.frozen (p := ⟨w.heap.size + 1, o, none⟩) (by first | omega | (simp <;> omega)); have z1 : w.heap.size + 1 < w'.heap.size := (by omega); refine with_box hb g1 ?_ ?_; (first | omega | (simp <;> omega)); intro ng nfg nzg; have e0 : ¬ w.heap.size = w'.heap.size := (by omega); have e0' : ¬ w'.heap.size = w.heap.size := (by omega); have e1 : ¬ w.heap.size + 1 = w'.heap.size := (by omega); have e1' : ¬ w'.heap.size = w.heap.size + 1 := (by omega); have e2 : ¬ g1 = w'.heap.size := (by omega); have e2' : ¬ w'.heap.size = g1 := (by omega); (try (refine with_box hb (wc.heap.size) ?_ ?_; (first | omega | (simp <;> omega)); intro n3 nf3 nz3)); (try (refine with_box hb (wA.heap.size) ?_ ?_; (first | omega | (simp <;> omega)); intro n4 nf4 nz4)); (try (refine with_box hb (wB.heap.size) ?_ ?_; (first | omega | (simp <;> omega)); intro n5 nf5 nz5)); obtain ⟨wC, rfl⟩ : ∃ wC, wC = w' := ⟨_, rfl⟩))
      all_goals
        go_wp2_with fail
        go_meet
        refine ⟨_, rfl, ?_, ?_, ?_, ?_, (by repeat (first | (with_reducible exact Below.refl _ _) | (with_reducible assumption) | ((with_reducible refine Below.alloc ?_ ?_ _); rotate_left; (first | omega | (simp <;> omega))) | ((with_reducible refine Below.setCell ?_ ?_ _); rotate_left; (first | omega | (simp <;> omega))) | (with_reducible refine below_drewN ?_ _) | (with_reducible refine Below.drew ?_) | ((with_reducible refine Below.step (by assumption) ?_ ?_); rotate_left; (first | omega | (simp <;> omega))))), ?_, ?_, ?_, ?_⟩
        all_goals (first | (go_simp; done) | (simp <;> omega))
    case rest =>
      obtain ⟨g2, rfl, r0, r1, r2, r3, hB2, u0, u1, u2, u3⟩ := hcut
      go_wp2_with fail
      refine (L_eqBucket _ _ _ _ _).mono ?_
      rintro e' w' ⟨rfl, hb⟩
      go_wp2
      go_ret
      exact ⟨rfl, Below.step hb hB2 hB2.size⟩
theorem FnExactFilterWindow_walk : LawWalk 9 [25, 49, 3, 3] := by
  intro H enc W base args ds ps hA hval hlt
  obtain ⟨v0, v1, v2, v3, rfl, h0, h1, h2, h3⟩ := args4 hA hval
  obtain ⟨k, r, rfl, _, _⟩ := h0.filter
  obtain ⟨a, b, c, d, e, f, g, rfl, _⟩ := h1.camera
  obtain ⟨i, rfl, _⟩ := h2.int Try.underlying3
  obtain ⟨j, rfl, _⟩ := h3.int Try.underlying3
  exact L_ExFilterWindow k r a b c d e f g i j W
end Go.Proofs.Ytckhdnigbddnkaa
