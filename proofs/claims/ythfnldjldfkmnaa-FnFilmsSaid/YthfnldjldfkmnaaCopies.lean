/- slices.Clone on ints and bools; the copies of accumulation buffers, films and images. -/
import Derived.Test.YthfnldjldfkmnaaMade
import Derived.WalkSpells
import Derived.Deep.RegionHeld3
namespace Go.Proofs.Ythfnldjldfkmnaa
open Go.RowKit
set_option linter.unusedVariables false
set_option maxRecDepth 20000
set_option maxHeartbeats 1000000 in
theorem G_CloneInt {A : Option Addr} {c : Nat} {l : List Int} (w : World) (hs : l.length ≤ 1048576) (h : RS w 1 A l.length c (ints l)) :
    Calls Try.prog 91 #[.slice A l.length c] w (MadeRow 3 1 l.length (ints l) w) := by
  have H0 := Lib.hid h
  have heq := fun (wx : World) => Lib.run_eql_slice_nil (P := Try.prog) wx 36 3 A l.length c 0 0 Try.underlying36
  rcases A with _ | a
  · have h0 : l.length = 0 := by
      rcases Nat.eq_zero_or_pos l.length with h0 | h0
      · exact h0
      · obtain ⟨b, o, hA, _⟩ := h.open_.2.2 h0; cases hA
    obtain rfl : l = [] := List.eq_nil_of_length_eq_zero h0
    clear h h0
    simp only [List.length_nil, Option.isNone_none] at heq
    go_enter Try.func91, Try.ntmps91
    go_wp2
    go_ret
    exact MadeRow.none_ _ _ _ (by repeat (first | (with_reducible exact Below.refl _ _) | (with_reducible assumption) | ((with_reducible refine Below.alloc ?_ ?_ _); rotate_left; (first | omega | (simp <;> omega))) | ((with_reducible refine Below.setCell ?_ ?_ _); rotate_left; (first | omega | (simp <;> omega))) | (with_reducible refine below_drewN ?_ _) | (with_reducible refine Below.drew ?_) | ((with_reducible refine Below.step (by assumption) ?_ ?_); rotate_left; (first | omega | (simp <;> omega)))))
  · clear h
    have HR := Lib.hid (RS.alloc H0.out (.cells #[] 3))
    have HG : Hid (Grow (w.alloc (.cells #[] 3)) w.heap.size 3 1 (some ⟨w.heap.size, 0, none⟩) 0 0 []) := Grow.lit w #[] 0 rfl (Nat.le_refl _) (Nat.zero_le _)
    go_enter Try.func91, Try.ntmps91
    go_wp2_with (at_builtin; refine wpList_app (by rfl) _ _ 36 (by rfl) (w.heap.size) 3 (.int .i64 0) 1 8 Try.underlying36 T.infoInt rfl (by decide) (xs := []) (by rfl) ?_ (ys := ints l) (by rfl) ?_ (ints_one _) ?_ ?_ ?_ ?_; (exact (by repeat (first | (with_reducible exact HG.out) | (with_reducible refine Grow.alloc ?_ _) | (with_reducible refine Grow.drewN ?_ _) | (with_reducible refine Grow.drew ?_) | ((with_reducible refine Grow.far ?_ ?_ _); rotate_left; (first | omega | (simp <;> omega))) | (with_reducible refine Grow.step (by assumption) ?_)))); (exact HR.out); (unfold maxLen; omega); (omega); (first | omega | (simp <;> omega)); rintro A' c' w2 gA; have HA := Lib.hid gA; clear gA)
    go_ret
    have g := HA.out
    have g1 := g.1
    simp only [List.nil_append, Nat.zero_add] at g1 ⊢
    exact Grow.made g1 (Nat.le_refl _) (Below.trans (by repeat (first | (with_reducible exact Below.refl _ _) | (with_reducible assumption) | ((with_reducible refine Below.alloc ?_ ?_ _); rotate_left; (first | omega | (simp <;> omega))) | ((with_reducible refine Below.setCell ?_ ?_ _); rotate_left; (first | omega | (simp <;> omega))) | (with_reducible refine below_drewN ?_ _) | (with_reducible refine Below.drew ?_) | ((with_reducible refine Below.step (by assumption) ?_ ?_); rotate_left; (first | omega | (simp <;> omega))))) g.2.1)
set_option maxHeartbeats 1000000 in
theorem G_CloneBool {A : Option Addr} {c : Nat} {l : List Bool} (w : World) (hs : l.length ≤ 1048576) (h : RS w 1 A l.length c (bools l)) :
    Calls Try.prog 173 #[.slice A l.length c] w (MadeRow 4 1 l.length (bools l) w) := by
  have H0 := Lib.hid h
  have heq := fun (wx : World) => Lib.run_eql_slice_nil (P := Try.prog) wx 94 4 A l.length c 0 0 Try.underlying94
  rcases A with _ | a
  · have h0 : l.length = 0 := by
      rcases Nat.eq_zero_or_pos l.length with h0 | h0
      · exact h0
      · obtain ⟨b, o, hA, _⟩ := h.open_.2.2 h0; cases hA
    obtain rfl : l = [] := List.eq_nil_of_length_eq_zero h0
    clear h h0
    simp only [List.length_nil, Option.isNone_none] at heq
    go_enter Try.func173, Try.ntmps173
    go_wp2
    go_ret
    exact MadeRow.none_ _ _ _ (by repeat (first | (with_reducible exact Below.refl _ _) | (with_reducible assumption) | ((with_reducible refine Below.alloc ?_ ?_ _); rotate_left; (first | omega | (simp <;> omega))) | ((with_reducible refine Below.setCell ?_ ?_ _); rotate_left; (first | omega | (simp <;> omega))) | (with_reducible refine below_drewN ?_ _) | (with_reducible refine Below.drew ?_) | ((with_reducible refine Below.step (by assumption) ?_ ?_); rotate_left; (first | omega | (simp <;> omega)))))
  · clear h
    have HR := Lib.hid (RS.alloc H0.out (.cells #[] 4))
    have HG : Hid (Grow (w.alloc (.cells #[] 4)) w.heap.size 4 1 (some ⟨w.heap.size, 0, none⟩) 0 0 []) := Grow.lit w #[] 0 rfl (Nat.le_refl _) (Nat.zero_le _)
    go_enter Try.func173, Try.ntmps173
    go_wp2_with (at_builtin; refine wpList_app (by rfl) _ _ 94 (by rfl) (w.heap.size) 4 (.bool false) 1 1 Try.underlying94 T.infoBool rfl (by decide) (xs := []) (by rfl) ?_ (ys := bools l) (by rfl) ?_ (bools_one _) ?_ ?_ ?_ ?_; (exact (by repeat (first | (with_reducible exact HG.out) | (with_reducible refine Grow.alloc ?_ _) | (with_reducible refine Grow.drewN ?_ _) | (with_reducible refine Grow.drew ?_) | ((with_reducible refine Grow.far ?_ ?_ _); rotate_left; (first | omega | (simp <;> omega))) | (with_reducible refine Grow.step (by assumption) ?_)))); (exact HR.out); (unfold maxLen; omega); (omega); (first | omega | (simp <;> omega)); rintro A' c' w2 gA; have HA := Lib.hid gA; clear gA)
    go_ret
    have g := HA.out
    have g1 := g.1
    simp only [List.nil_append, Nat.zero_add] at g1 ⊢
    exact Grow.made g1 (Nat.le_refl _) (Below.trans (by repeat (first | (with_reducible exact Below.refl _ _) | (with_reducible assumption) | ((with_reducible refine Below.alloc ?_ ?_ _); rotate_left; (first | omega | (simp <;> omega))) | ((with_reducible refine Below.setCell ?_ ?_ _); rotate_left; (first | omega | (simp <;> omega))) | (with_reducible refine below_drewN ?_ _) | (with_reducible refine Below.drew ?_) | ((with_reducible refine Below.step (by assumption) ?_ ?_); rotate_left; (first | omega | (simp <;> omega))))) g.2.1)
set_option maxHeartbeats 4000000 in
theorem S_copyAccum {W H : Int} {A B : Option Addr} {c d : Nat} {s t : List Int} (w : World) (hs : s.length ≤ 1048576) (ht : t.length ≤ 1048576) (h : RS w 1 A s.length c (ints s)) (h' : RS w 1 B t.length d (ints t)) :
    Calls Try.prog 118 #[vAccum W H (.slice A s.length c) (.slice B t.length d)] w (MadeAccum (fun s0 s1 => vAccum W H s0 s1) s.length (ints s) t.length (ints t) w) := by
  have H0 := Lib.hid h
  have H1 := Lib.hid h'
  clear h h'
  have hne : ¬ w.heap.size + 1 = w.heap.size := by omega
  have hne' : ¬ w.heap.size = w.heap.size + 1 := by omega
  go_enter Try.func118, Try.ntmps118
  go_wp2_with fail
  go_region_held3 (fun w' => w'.cell? ⟨w.heap.size, 0, none⟩ = some (.int .i64 W) ∧ w'.cell? ⟨w.heap.size, 1, none⟩ = some (.int .i64 H) ∧ w'.cell? ⟨w.heap.size, 2, none⟩ = some (.slice A s.length c) ∧ w'.cell? ⟨w.heap.size, 3, none⟩ = some (.slice B t.length d))
    (first | ((try dsimp only); refine ⟨?_, ?_, ?_, ?_⟩ <;> (go_simp; done)) | go_keep)
    (first | (refine step_app (by rfl) _ _ 36 (by rfl) (w.heap.size + 2) 3 (.int .i64 0) 1 8 Try.underlying36 T.infoInt rfl (by decide) (xs := []) (by rfl) ?_ (ys := ints s) (by rfl) ?_ (ints_one _) ?_ ?_ ?_ ?_; (exact (by repeat (first | (with_reducible assumption) | (with_reducible refine Grow.drewN ?_ _) | (with_reducible refine Grow.drew ?_) | ((with_reducible refine Grow.app (by assumption) ?_ ?_); rotate_left; (intro x hx hy; simp [gOf] at hx hy; omega)) | ((refine Grow.lit_at ?_ (by rfl) ?_ (Nat.zero_le _)); (focus (simp; done)); (first | omega | (simp <;> omega))) | (with_reducible refine Grow.alloc ?_ _)))); (exact (RS.step (by repeat (first | (with_reducible exact Below.refl _ _) | (with_reducible assumption) | ((with_reducible refine Below.alloc ?_ ?_ _); rotate_left; (first | omega | (simp <;> omega))) | ((with_reducible refine Below.setCell ?_ ?_ _); rotate_left; (first | omega | (simp <;> omega))) | (with_reducible refine below_drewN ?_ _) | (with_reducible refine Below.drew ?_) | ((with_reducible refine Below.step (by assumption) ?_ ?_); rotate_left; (first | omega | (simp <;> omega))))) H0.out)); (unfold maxLen; omega); (omega); (first | omega | (simp <;> omega)); rintro P1 k1 x1 gA1; have hw1 : Below w.heap.size w x1 := Below.trans (by repeat (first | (with_reducible exact Below.refl _ _) | (with_reducible assumption) | ((with_reducible refine Below.alloc ?_ ?_ _); rotate_left; (first | omega | (simp <;> omega))) | ((with_reducible refine Below.setCell ?_ ?_ _); rotate_left; (first | omega | (simp <;> omega))) | (with_reducible refine below_drewN ?_ _) | (with_reducible refine Below.drew ?_) | ((with_reducible refine Below.step (by assumption) ?_ ?_); rotate_left; (first | omega | (simp <;> omega))))) (gA1.2.1.mono (by omega)); have hs1 := gA1.2.2.2.1; (try simp at hs1); have za : w.heap.size < x1.heap.size := (by omega); have zb : w.heap.size + 1 < x1.heap.size := (by omega); have zc : ¬ w.heap.size = x1.heap.size := (by omega); have zd : ¬ w.heap.size + 1 = x1.heap.size := (by omega); have cc := (bcell gA1.2.1).1; have ff := (bcell gA1.2.1).2) | (refine step_app (by rfl) _ _ 36 (by rfl) (w.heap.size + 2) 3 (.int .i64 0) 1 8 Try.underlying36 T.infoInt rfl (by decide) (xs := []) (by rfl) ?_ (ys := ints t) (by rfl) ?_ (ints_one _) ?_ ?_ ?_ ?_; (exact (by repeat (first | (with_reducible assumption) | (with_reducible refine Grow.drewN ?_ _) | (with_reducible refine Grow.drew ?_) | ((with_reducible refine Grow.app (by assumption) ?_ ?_); rotate_left; (intro x hx hy; simp [gOf] at hx hy; omega)) | ((refine Grow.lit_at ?_ (by rfl) ?_ (Nat.zero_le _)); (focus (simp; done)); (first | omega | (simp <;> omega))) | (with_reducible refine Grow.alloc ?_ _)))); (exact (RS.step (by repeat (first | (with_reducible exact Below.refl _ _) | (with_reducible assumption) | ((with_reducible refine Below.alloc ?_ ?_ _); rotate_left; (first | omega | (simp <;> omega))) | ((with_reducible refine Below.setCell ?_ ?_ _); rotate_left; (first | omega | (simp <;> omega))) | (with_reducible refine below_drewN ?_ _) | (with_reducible refine Below.drew ?_) | ((with_reducible refine Below.step (by assumption) ?_ ?_); rotate_left; (first | omega | (simp <;> omega))))) H1.out)); (unfold maxLen; omega); (omega); (first | omega | (simp <;> omega)); rintro P2 k2 x2 gA2; have hw2 : Below w.heap.size w x2 := Below.trans (by repeat (first | (with_reducible exact Below.refl _ _) | (with_reducible assumption) | ((with_reducible refine Below.alloc ?_ ?_ _); rotate_left; (first | omega | (simp <;> omega))) | ((with_reducible refine Below.setCell ?_ ?_ _); rotate_left; (first | omega | (simp <;> omega))) | (with_reducible refine below_drewN ?_ _) | (with_reducible refine Below.drew ?_) | ((with_reducible refine Below.step (by assumption) ?_ ?_); rotate_left; (first | omega | (simp <;> omega))))) (gA2.2.1.mono (by omega)); have hs2 := gA2.2.2.2.1; (try simp at hs2); have za : w.heap.size < x2.heap.size := (by omega); have zb : w.heap.size + 1 < x2.heap.size := (by omega); have cc2 := (bcell gA2.2.1).1; have ff2 := (bcell gA2.2.1).2))
  all_goals
    obtain ⟨tr1, tr2⟩ := two_rows gA1 gA2 (by repeat (first | (with_reducible exact Below.refl _ _) | (with_reducible assumption) | ((with_reducible refine Below.alloc ?_ ?_ _); rotate_left; (first | omega | (simp <;> omega))) | ((with_reducible refine Below.setCell ?_ ?_ _); rotate_left; (first | omega | (simp <;> omega))) | (with_reducible refine below_drewN ?_ _) | (with_reducible refine Below.drew ?_) | ((with_reducible refine Below.step (by assumption) ?_ ?_); rotate_left; (first | omega | (simp <;> omega))))) (by simp) (by omega) (by first | (left; simp; done) | (left; simp; omega) | (right; omega) | (right; simp; done))
    have g2 := gA2.1
    simp only [List.nil_append, Nat.zero_add] at tr1 g2
    go_wp2
    refine bodyPost_ret (v := vAccum W H (.slice P1 s.length k1) (.slice P2 t.length k2)) (by simp [results, Try.results118, go_sem, *]) rfl ⟨P1, k1, P2, k2, rfl, Grow.ownS (base := w.heap.size + 2) (by repeat (first | (with_reducible exact tr1) | (with_reducible refine Grow.alloc ?_ _) | (with_reducible refine Grow.drewN ?_ _) | (with_reducible refine Grow.drew ?_) | ((with_reducible refine Grow.far ?_ ?_ _); rotate_left; (first | omega | (simp <;> omega))) | (with_reducible refine Grow.step (by assumption) ?_))), Grow.ownS (base := w.heap.size + 2) (by repeat (first | (with_reducible exact g2) | (with_reducible refine Grow.alloc ?_ _) | (with_reducible refine Grow.drewN ?_ _) | (with_reducible refine Grow.drew ?_) | ((with_reducible refine Grow.far ?_ ?_ _); rotate_left; (first | omega | (simp <;> omega))) | (with_reducible refine Grow.step (by assumption) ?_))), (fun x hx => by have := tr1.ge x hx; omega), (fun x hx => by have := g2.ge x hx; omega), tr2, (by repeat (first | (with_reducible exact Below.refl _ _) | (with_reducible assumption) | ((with_reducible refine Below.alloc ?_ ?_ _); rotate_left; (first | omega | (simp <;> omega))) | ((with_reducible refine Below.setCell ?_ ?_ _); rotate_left; (first | omega | (simp <;> omega))) | (with_reducible refine below_drewN ?_ _) | (with_reducible refine Below.drew ?_) | ((with_reducible refine Below.step (by assumption) ?_ ?_); rotate_left; (first | omega | (simp <;> omega)))))⟩
set_option maxHeartbeats 4000000 in
theorem I_copyAccum {W H : Int} {A B : Option Addr} {c d : Nat} {s : List Int} {t : List Int} (w : World) (hs : s.length ≤ 1048576) (ht : t.length ≤ 1048576) (h : RS w 1 A s.length c (ints s)) (h' : RS w 1 B t.length d (ints t)) :
    Calls Try.prog 110 #[vAccum W H (.slice A s.length c) (.slice B t.length d)] w (MadeAccum (fun s0 s1 => vAccum W H s0 s1) s.length (ints s) t.length (ints t) w) := by
  have H0 := Lib.hid h
  have H1 := Lib.hid h'
  clear h h'
  have hne : ¬ w.heap.size + 1 = w.heap.size := by omega
  have hne' : ¬ w.heap.size = w.heap.size + 1 := by omega
  go_enter Try.func110, Try.ntmps110
  go_wp2_with fail
  go_region_held3 (fun w' => w'.cell? ⟨w.heap.size, 0, none⟩ = some (.int .i64 W) ∧ w'.cell? ⟨w.heap.size, 1, none⟩ = some (.int .i64 H) ∧ w'.cell? ⟨w.heap.size, 2, none⟩ = some (.slice A s.length c) ∧ w'.cell? ⟨w.heap.size, 3, none⟩ = some (.slice B t.length d))
    (first | ((try dsimp only); refine ⟨?_, ?_, ?_, ?_⟩ <;> (go_simp; done)) | go_keep)
    (first | (go_at_call 91; (with_reducible refine (G_CloneInt (l := s) _ hs (RS.step (by repeat (first | (with_reducible exact Below.refl _ _) | (with_reducible assumption) | ((with_reducible refine Below.alloc ?_ ?_ _); rotate_left; (first | omega | (simp <;> omega))) | ((with_reducible refine Below.setCell ?_ ?_ _); rotate_left; (first | omega | (simp <;> omega))) | (with_reducible refine below_drewN ?_ _) | (with_reducible refine Below.drew ?_) | ((with_reducible refine Below.step (by assumption) ?_ ?_); rotate_left; (first | omega | (simp <;> omega))))) H0.out)).mono ?_); rintro e x1 ⟨P1, k1, rfl, o1, ge1, hb1⟩; have hz1 := hb1.size; (try simp at hz1); have cc := (bcell hb1).1; have ff := (bcell hb1).2; have za : w.heap.size < x1.heap.size := (by omega); have zb : w.heap.size + 1 < x1.heap.size := (by omega)) | (go_at_call 91; (with_reducible refine (G_CloneInt (l := t) _ ht (RS.step (by repeat (first | (with_reducible exact Below.refl _ _) | (with_reducible assumption) | ((with_reducible refine Below.alloc ?_ ?_ _); rotate_left; (first | omega | (simp <;> omega))) | ((with_reducible refine Below.setCell ?_ ?_ _); rotate_left; (first | omega | (simp <;> omega))) | (with_reducible refine below_drewN ?_ _) | (with_reducible refine Below.drew ?_) | ((with_reducible refine Below.step (by assumption) ?_ ?_); rotate_left; (first | omega | (simp <;> omega))))) H1.out)).mono ?_); rintro e x2 ⟨P2, k2, rfl, o2, ge2, hb2⟩; have hz2 := hb2.size; (try simp at hz2); have cc2 := (bcell hb2).1; have ff2 := (bcell hb2).2; have za : w.heap.size < x2.heap.size := (by omega); have zb : w.heap.size + 1 < x2.heap.size := (by omega)))
  have lt1 := OwnS.lt o1
  have tr1 := OwnS.step hb2 o1
  go_wp2
  refine bodyPost_ret (v := vAccum W H (.slice P1 s.length k1) (.slice P2 t.length k2)) (by simp [results, Try.results110, go_sem, *]) rfl ⟨P1, k1, P2, k2, rfl, (by repeat (first | (with_reducible exact tr1) | ((with_reducible refine OwnS.far ?_ (fun x hx => ?_) _); rotate_left; (have q := ge1 x hx; (try simp at q); first | omega | (simp <;> omega))))), (by repeat (first | (with_reducible exact o2) | ((with_reducible refine OwnS.far ?_ (fun x hx => ?_) _); rotate_left; (have q := ge2 x hx; (try simp at q); first | omega | (simp <;> omega))))), (fun x hx => by have := ge1 x hx; simp at this; omega), (fun x hx => by have := ge2 x hx; (try simp at this); omega), (fun x hx hy => by have h1 := lt1 x hx; have h2 := ge2 x hy; (try simp at h2); omega), (by repeat (first | (with_reducible exact Below.refl _ _) | (with_reducible assumption) | ((with_reducible refine Below.alloc ?_ ?_ _); rotate_left; (first | omega | (simp <;> omega))) | ((with_reducible refine Below.setCell ?_ ?_ _); rotate_left; (first | omega | (simp <;> omega))) | (with_reducible refine below_drewN ?_ _) | (with_reducible refine Below.drew ?_) | ((with_reducible refine Below.step (by assumption) ?_ ?_); rotate_left; (first | omega | (simp <;> omega)))))⟩
end Go.Proofs.Ythfnldjldfkmnaa
