/- MergeFilms of the reference. -/
import Derived.Test.YthfnldjldfkmnaaFilmP
import Derived.BigQuiet
import Derived.Deep.QuietTactic
import Derived.StillTailTactics
namespace Go.Proofs.Ythfnldjldfkmnaa
open Go.RowKit
set_option linter.unusedVariables false
set_option maxRecDepth 100000
set_option maxHeartbeats 8000000 in
theorem S_MergeFilms {W H W' H' : Int} {A B A' B' : Option Addr} {c d c' d' : Nat} {s s' : List Int} {t t' : List Bool} (w : World) (h : RS w 1 A s.length c (ints s)) (h2 : RS w 1 B t.length d (bools t)) (h3 : RS w 1 A' s'.length c' (ints s')) (h4 : RS w 1 B' t'.length d' (bools t')) :
    Calls Try.prog 58 #[vFilm W H (.slice A s.length c) (.slice B t.length d), vFilm W' H' (.slice A' s'.length c') (.slice B' t'.length d')] w (FilmMR (mergeFOk W H s t W' H' s' t') W H (pixM s s' t') (donM t t') w) := by
  have n1 := h.len
  have n2 := h2.len
  have n3 := h3.len
  have n4 := h4.len
  unfold maxLen at n1 n2 n3 n4
  have H1 := Lib.hid h
  have H2 := Lib.hid h2
  have H3 := Lib.hid h3
  have H4 := Lib.hid h4
  clear h h2 h3 h4
  rcases mergeF_ways W H s t W' H' s' t' with ⟨q1, q2, q3, q4, q5⟩ | ⟨q1, q5⟩ | ⟨q1, q2, q5⟩ | ⟨q1, q2, q3, q5⟩ | ⟨q1, q2, q3, q4, q5⟩
  case inr.inl =>
    have HV : Hid (FilmMR (mergeFOk W H s t W' H' s' t') W H (pixM s s' t') (donM t t') w = FilmMR false W H (pixM s s' t') (donM t t') w) := by show _ = _; rw [q5.out]
    go_enter Try.func58, Try.ntmps58
    go_wp2_with fail
    refine (S_IsValidFilm _ (RS.step (by repeat (first | (with_reducible exact Below.refl _ _) | (with_reducible assumption) | ((with_reducible refine Below.alloc ?_ ?_ _); rotate_left; (first | omega | (simp <;> omega))) | ((with_reducible refine Below.setCell ?_ ?_ _); rotate_left; (first | omega | (simp <;> omega))) | (with_reducible refine below_drewN ?_ _) | (with_reducible refine Below.drew ?_) | ((with_reducible refine Below.step (by assumption) ?_ ?_); rotate_left; (first | omega | (simp <;> omega))))) H1.out) (RS.step (by repeat (first | (with_reducible exact Below.refl _ _) | (with_reducible assumption) | ((with_reducible refine Below.alloc ?_ ?_ _); rotate_left; (first | omega | (simp <;> omega))) | ((with_reducible refine Below.setCell ?_ ?_ _); rotate_left; (first | omega | (simp <;> omega))) | (with_reducible refine below_drewN ?_ _) | (with_reducible refine Below.drew ?_) | ((with_reducible refine Below.step (by assumption) ?_ ?_); rotate_left; (first | omega | (simp <;> omega))))) H2.out)).mono ?_
    rintro e w' ⟨rfl, hb⟩; have hz := hb.size; (try simp at hz); have c0 := fun o => hb.cell (p := ⟨w.heap.size, o, none⟩) (by first | omega | (simp <;> omega)); have f0 := fun o => hb.frozen (p := ⟨w.heap.size, o, none⟩) (by first | omega | (simp <;> omega)); have z0 : w.heap.size < w'.heap.size := (by omega); have c1 := fun o => hb.cell (p := ⟨w.heap.size + 1, o, none⟩) (by first | omega | (simp <;> omega)); have f1 := fun o => hb.frozen (p := ⟨w.heap.size + 1, o, none⟩) (by first | omega | (simp <;> omega)); have z1 : w.heap.size + 1 < w'.heap.size := (by omega); have c2 := fun o => hb.cell (p := ⟨w.heap.size + 1 + 1, o, none⟩) (by first | omega | (simp <;> omega)); have f2 := fun o => hb.frozen (p := ⟨w.heap.size + 1 + 1, o, none⟩) (by first | omega | (simp <;> omega)); have z2 : w.heap.size + 1 + 1 < w'.heap.size := (by omega)
    go_wp2
    rw [HV.out]
    exact bodyPost_ret (v := .tuple #[vFilm 0 0 (.slice none 0 0) (.slice none 0 0), .bool false]) (by simp [results, Try.results58, go_sem, *]) rfl (FilmMR.no (by repeat (first | (with_reducible exact Below.refl _ _) | (with_reducible assumption) | ((with_reducible refine Below.alloc ?_ ?_ _); rotate_left; (first | omega | (simp <;> omega))) | ((with_reducible refine Below.setCell ?_ ?_ _); rotate_left; (first | omega | (simp <;> omega))) | (with_reducible refine below_drewN ?_ _) | (with_reducible refine Below.drew ?_) | ((with_reducible refine Below.step (by assumption) ?_ ?_); rotate_left; (first | omega | (simp <;> omega))))))
  case inl =>
    have e1 : W = W' := by simpa using q3
    have e2 : H = H' := by simpa using q4
    subst e1; subst e2
    obtain ⟨sz, a2, a3, _, _, _, _, a5, a4⟩ := validFilm_true q1
    obtain ⟨_, b2, b3, _, _, _, _, b5, b4⟩ := validFilm_true q2
    have hpos := (area_rng sz).1
    have L1 : Hid (s.length = s'.length) := by show s.length = s'.length; omega
    have L2 : Hid (t.length = t'.length) := by show t.length = t'.length; omega
    have L3 : Hid (s.length = t.length) := a4
    have p1 : 0 < s.length := by omega
    clear a2 a3 a4 b2 b3 b4 sz hpos
    go_enter Try.func58, Try.ntmps58
    go_wp2_with fail
    refine (S_IsValidFilm _ (RS.step (by repeat (first | (with_reducible exact Below.refl _ _) | (with_reducible assumption) | ((with_reducible refine Below.alloc ?_ ?_ _); rotate_left; (first | omega | (simp <;> omega))) | ((with_reducible refine Below.setCell ?_ ?_ _); rotate_left; (first | omega | (simp <;> omega))) | (with_reducible refine below_drewN ?_ _) | (with_reducible refine Below.drew ?_) | ((with_reducible refine Below.step (by assumption) ?_ ?_); rotate_left; (first | omega | (simp <;> omega))))) H1.out) (RS.step (by repeat (first | (with_reducible exact Below.refl _ _) | (with_reducible assumption) | ((with_reducible refine Below.alloc ?_ ?_ _); rotate_left; (first | omega | (simp <;> omega))) | ((with_reducible refine Below.setCell ?_ ?_ _); rotate_left; (first | omega | (simp <;> omega))) | (with_reducible refine below_drewN ?_ _) | (with_reducible refine Below.drew ?_) | ((with_reducible refine Below.step (by assumption) ?_ ?_); rotate_left; (first | omega | (simp <;> omega))))) H2.out)).mono ?_
    rintro e w1 ⟨rfl, hb1⟩
    have hz1 := hb1.size
    (try simp at hz1)
    obtain ⟨cc1, ff1⟩ := bcell (hb1.mono (show w.heap.size + 3 ≤ _ by first | omega | (simp <;> omega)))
    have ya1 : w.heap.size < w1.heap.size := by omega
    have yb1 : w.heap.size + 1 < w1.heap.size := by omega
    have yc1 : w.heap.size + 1 + 1 < w1.heap.size := by omega
    have hB1 : Below w.heap.size w w1 := (by repeat (first | (with_reducible exact Below.refl _ _) | (with_reducible assumption) | ((with_reducible refine Below.alloc ?_ ?_ _); rotate_left; (first | omega | (simp <;> omega))) | ((with_reducible refine Below.setCell ?_ ?_ _); rotate_left; (first | omega | (simp <;> omega))) | (with_reducible refine below_drewN ?_ _) | (with_reducible refine Below.drew ?_) | ((with_reducible refine Below.step (by assumption) ?_ ?_); rotate_left; (first | omega | (simp <;> omega)))))
    go_wp2_with fail
    refine (S_IsValidFilm _ (RS.step hB1 H3.out) (RS.step hB1 H4.out)).mono ?_
    rintro e w2 ⟨rfl, hb2⟩
    have hz2 := hb2.size
    (try simp at hz2)
    obtain ⟨cc2, ff2⟩ := bcell (hb2.mono (show w.heap.size + 3 ≤ _ by first | omega | (simp <;> omega)))
    have ya2 : w.heap.size < w2.heap.size := by omega
    have yb2 : w.heap.size + 1 < w2.heap.size := by omega
    have yc2 : w.heap.size + 1 + 1 < w2.heap.size := by omega
    have hB2 : Below w.heap.size w w2 := (by repeat (first | (with_reducible exact Below.refl _ _) | (with_reducible assumption) | ((with_reducible refine Below.alloc ?_ ?_ _); rotate_left; (first | omega | (simp <;> omega))) | ((with_reducible refine Below.setCell ?_ ?_ _); rotate_left; (first | omega | (simp <;> omega))) | (with_reducible refine below_drewN ?_ _) | (with_reducible refine Below.drew ?_) | ((with_reducible refine Below.step (by assumption) ?_ ?_); rotate_left; (first | omega | (simp <;> omega)))))
    go_wp2_with fail
    refine (S_copyFilm _ (by omega) (by have := L3.out; omega) (RS.step (by repeat (first | (with_reducible exact Below.refl _ _) | (with_reducible assumption) | ((with_reducible refine Below.alloc ?_ ?_ _); rotate_left; (first | omega | (simp <;> omega))) | ((with_reducible refine Below.setCell ?_ ?_ _); rotate_left; (first | omega | (simp <;> omega))) | (with_reducible refine below_drewN ?_ _) | (with_reducible refine Below.drew ?_) | ((with_reducible refine Below.step (by assumption) ?_ ?_); rotate_left; (first | omega | (simp <;> omega))))) H1.out) (RS.step (by repeat (first | (with_reducible exact Below.refl _ _) | (with_reducible assumption) | ((with_reducible refine Below.alloc ?_ ?_ _); rotate_left; (first | omega | (simp <;> omega))) | ((with_reducible refine Below.setCell ?_ ?_ _); rotate_left; (first | omega | (simp <;> omega))) | (with_reducible refine below_drewN ?_ _) | (with_reducible refine Below.drew ?_) | ((with_reducible refine Below.step (by assumption) ?_ ?_); rotate_left; (first | omega | (simp <;> omega))))) H2.out)).mono ?_
    rintro e w3 ⟨P1, k1, P2, k2, rfl, o1, o2, ge1, ge2, hd, hb3⟩
    have hz3 := hb3.size
    (try simp at hz3)
    obtain ⟨cc3, ff3⟩ := bcell (hb3.mono (show w.heap.size + 3 ≤ _ by first | omega | (simp <;> omega)))
    have ya3 : w.heap.size < w3.heap.size := by omega
    have yb3 : w.heap.size + 1 < w3.heap.size := by omega
    have yc3 : w.heap.size + 1 + 1 < w3.heap.size := by omega
    have hB3 : Below w.heap.size w w3 := (by repeat (first | (with_reducible exact Below.refl _ _) | (with_reducible assumption) | ((with_reducible refine Below.alloc ?_ ?_ _); rotate_left; (first | omega | (simp <;> omega))) | ((with_reducible refine Below.setCell ?_ ?_ _); rotate_left; (first | omega | (simp <;> omega))) | (with_reducible refine below_drewN ?_ _) | (with_reducible refine Below.drew ?_) | ((with_reducible refine Below.step (by assumption) ?_ ?_); rotate_left; (first | omega | (simp <;> omega)))))
    have HA3 := Lib.hid (RS.step hB3 H3.out)
    obtain ⟨g1, d1, rfl, o1, k1a, k1b⟩ := OwnS.block o1 p1
    obtain ⟨g2, d2, rfl, o2, k2a, k2b⟩ := OwnS.block o2 (by have := L3.out; omega)
    have hg1 := ge1 g1 (by simp [gOf])
    have hg2 := ge2 g2 (by simp [gOf])
    have hg12 : g1 ≠ g2 := fun e => hd g1 (by simp [gOf]) (by simp [gOf, e])
    have hl1 := o1.lt
    have hl2 := o2.lt
    clear ge1 ge2 hd
    unfold maxLen at k1b k2b
    go_wp2_with fail
    have hn4 : t'.length = s.length := by have := L2.out; have := L3.out; omega
    have HN4 := Lib.hid hn4
    clear hn4
    go_loopw [7, 8, 37] (fun _ _ i wr => ∃ k : Nat, k ≤ t'.length ∧ i = .int .i64 k ∧ okTo selfN (onB t') (atI s') s t k = true ∧ Own wr g1 3 (ints (pixTo selfN (onB t') (atI s') s k) ++ d1) ∧ Own wr g2 4 (bools (donTo selfN (onB t') t k) ++ d2) ∧ Only (w3.heap.size + 1) [g1, g2] (w3.alloc (.cells #[.int .i64 W, .int .i64 H, .slice (some ⟨g1, 0, none⟩) s.length k1, .slice (some ⟨g2, 0, none⟩) t.length k2] 98)) wr) (fun _ _ i _ => t'.length - (intOf i).toNat)
    case atStart => exact ⟨0, Nat.zero_le _, rfl, rfl, o1.alloc _, o2.alloc _, Only.refl _ _ _⟩
    case round =>
      obtain ⟨k, hk, rfl, hst, r1, r2, hO⟩ := hrel
      have HST := Lib.hid hst
      clear hst
      have hN := HN4.out
      have hL1 := L1.out
      have hL3 := L3.out
      have hbw : Below w.heap.size w wr := Below.trans (Below.alloc hB3 (by omega) _) (hO.below (by omega) (fun x hx => by simp at hx; omega))
      have hOz := hO.size
      (try simp at hOz)
      obtain ⟨oc0, of0⟩ := hO.cell w3.heap.size (by omega) (by simp; omega)
      obtain ⟨oc1, of1⟩ := hO.cell (w.heap.size + 1) (by omega) (by simp; omega)
      obtain ⟨oc2, of2⟩ := hO.cell w.heap.size (by omega) (by simp; omega)
      have e02 : wr.cell? ⟨w3.heap.size, 2, none⟩ = some (.slice (some ⟨g1, 0, none⟩) s.length k1) := by rw [oc0]; simp
      have e03 : wr.cell? ⟨w3.heap.size, 3, none⟩ = some (.slice (some ⟨g2, 0, none⟩) t.length k2) := by rw [oc0]; simp
      have e00 : wr.cell? ⟨w3.heap.size, 0, none⟩ = some (.int .i64 W) := by rw [oc0]; simp
      have e01 : wr.cell? ⟨w3.heap.size, 1, none⟩ = some (.int .i64 H) := by rw [oc0]; simp
      have ha3 : (w3.alloc (.cells #[.int .i64 W, .int .i64 H, .slice (some ⟨g1, 0, none⟩) s.length k1, .slice (some ⟨g2, 0, none⟩) t.length k2] 98)).cell? ⟨w.heap.size + 1, 2, none⟩ = some (.slice A' s'.length c') := by go_simp
      have ha4 : (w3.alloc (.cells #[.int .i64 W, .int .i64 H, .slice (some ⟨g1, 0, none⟩) s.length k1, .slice (some ⟨g2, 0, none⟩) t.length k2] 98)).cell? ⟨w.heap.size, 2, none⟩ = some (.slice A s.length c) := by go_simp
      have ha5 : (w3.alloc (.cells #[.int .i64 W, .int .i64 H, .slice (some ⟨g1, 0, none⟩) s.length k1, .slice (some ⟨g2, 0, none⟩) t.length k2] 98)).cell? ⟨w.heap.size, 3, none⟩ = some (.slice B t.length d) := by go_simp
      obtain ⟨oc4, of4⟩ := hO.cell (w.heap.size + 1 + 1) (by omega) (by simp; omega)
      have hr0 : ∀ j, j < 4 → ((w3.alloc (.cells #[.int .i64 W, .int .i64 H, .slice (some ⟨g1, 0, none⟩) s.length k1, .slice (some ⟨g2, 0, none⟩) t.length k2] 98)).cell? ⟨w.heap.size + 1 + 1, j, none⟩).isSome = true := by
        intro j hj
        match j, hj with
        | 0, _ => go_simp
        | 1, _ => go_simp
        | 2, _ => go_simp
        | 3, _ => go_simp
      obtain ⟨ue0, er0⟩ : ∃ u, wr.cell? ⟨w.heap.size + 1 + 1, 0, none⟩ = some u := Option.isSome_iff_exists.1 (by rw [oc4 0]; exact hr0 0 (by omega))
      obtain ⟨ue1, er1⟩ : ∃ u, wr.cell? ⟨w.heap.size + 1 + 1, 1, none⟩ = some u := Option.isSome_iff_exists.1 (by rw [oc4 1]; exact hr0 1 (by omega))
      obtain ⟨ue2, er2⟩ : ∃ u, wr.cell? ⟨w.heap.size + 1 + 1, 2, none⟩ = some u := Option.isSome_iff_exists.1 (by rw [oc4 2]; exact hr0 2 (by omega))
      obtain ⟨ue3, er3⟩ : ∃ u, wr.cell? ⟨w.heap.size + 1 + 1, 3, none⟩ = some u := Option.isSome_iff_exists.1 (by rw [oc4 3]; exact hr0 3 (by omega))
      have erf : ∀ j, wr.frozen? ⟨w.heap.size + 1 + 1, j, none⟩ = false := by intro j; rw [of4 j]; go_simp
      have e12 : wr.cell? ⟨w.heap.size + 1, 2, none⟩ = some (.slice A' s'.length c') := (oc1 2).trans ha3
      have e22 : wr.cell? ⟨w.heap.size, 2, none⟩ = some (.slice A s.length c) := (oc2 2).trans ha4
      have e23 : wr.cell? ⟨w.heap.size, 3, none⟩ = some (.slice B t.length d) := (oc2 3).trans ha5
      have HR1 := Lib.hid r1
      have HR2 := Lib.hid r2
      have HO := Lib.hid hO
      have HBW := Lib.hid hbw
      have HA3' := Lib.hid ha3
      clear hr0 oc4 of4 r1 r2 hO hbw oc0 of0 oc1 of1 oc2 of2 ha3 ha4 ha5
      by_cases hlt : k < t'.length
      · have hL2 := L2.out
        obtain ⟨b, o, rfl, hbh, hcell⟩ := (RS.step HBW.out H3.out).open_.2.2 (by omega)
        obtain ⟨b', o', rfl, hbh', hcell'⟩ := (RS.step HBW.out H4.out).open_.2.2 (by omega)
        obtain ⟨b'', o'', rfl, hbh'', hcell''⟩ := (RS.step HBW.out H1.out).open_.2.2 (by omega)
        obtain ⟨b3, o3, rfl, hbh3, hcell3⟩ := (RS.step HBW.out H2.out).open_.2.2 (by omega)
        have x1 : wr.cell? ⟨b, o + k, none⟩ = some (.int .i64 (s'[k]'(by omega))) := by rw [hcell k (by omega), ints_at (by omega)]
        have x2 : wr.cell? ⟨b', o' + k, none⟩ = some (.bool t'[k]) := by rw [hcell' k (by omega), bools_at hlt]
        have x3 : wr.cell? ⟨b'', o'' + k, none⟩ = some (.int .i64 (s[k]'(by omega))) := by rw [hcell'' k (by omega), ints_at (by omega)]
        have x4 : wr.cell? ⟨b3, o3 + k, none⟩ = some (.bool (t[k]'(by omega))) := by rw [hcell3 k (by omega), bools_at (by omega)]
        have HC : Hid (∀ wx, Only (w3.heap.size + 1) [g1, g2] (w3.alloc (.cells #[.int .i64 W, .int .i64 H, .slice (some ⟨g1, 0, none⟩) s.length k1, .slice (some ⟨g2, 0, none⟩) t.length k2] 98)) wx → wx.cell? ⟨w3.heap.size, 2, none⟩ = some (.slice (some ⟨g1, 0, none⟩) s.length k1) ∧ wx.cell? ⟨w.heap.size + 1, 2, none⟩ = some (.slice (some ⟨b, o, none⟩) s'.length c') ∧ wx.cell? ⟨b, o + k, none⟩ = some (.int .i64 (s'[k]'(by omega)))) := by
          intro wx hx
          have hbwy : Below w.heap.size w wx := Below.trans (Below.alloc hB3 (by omega) _) (hx.below (by omega) (fun x hx => by simp at hx; omega))
          obtain ⟨b5, o5, he5, _, hc5⟩ := (RS.step hbwy H3.out).open_.2.2 (by omega)
          injection he5 with he5
          injection he5 with he6 he7
          subst he6; subst he7
          refine ⟨?_, ?_, ?_⟩
          · rw [(hx.cell w3.heap.size (by omega) (by simp; omega)).1]; simp
          · exact ((hx.cell (w.heap.size + 1) (by omega) (by simp; omega)).1 2).trans HA3'.out
          · rw [hc5 k (by omega), ints_at (by omega)]
        have HP0 : Hid (t'[k] = false → pixTo selfN (onB t') (atI s') s (k + 1) = pixTo selfN (onB t') (atI s') s k ∧ donTo selfN (onB t') t (k + 1) = donTo selfN (onB t') t k ∧ okTo selfN (onB t') (atI s') s t (k + 1) = true) := fun hy => by
          have ho : onB t' k = false := by rw [onB, getD_at hlt, hy]
          exact ⟨pixTo_off ho, donTo_off ho, okTo_succ HST.out (okAt_off ho)⟩
        have HP1 : Hid (t'[k] = true → (ints (pixTo selfN (onB t') (atI s') s k)).set k (.int .i64 (s'[k]'(by omega))) = ints (pixTo selfN (onB t') (atI s') s (k + 1)) ∧ (bools (donTo selfN (onB t') t k)).set k (.bool true) = bools (donTo selfN (onB t') t (k + 1))) := fun hy => by
          have ho : onB t' k = true := by rw [onB, getD_at hlt, hy]
          have hv : atI s' k = s'[k]'(by omega) := getD_at _ _
          rw [← hv]
          exact ⟨pixTo_set ho, donTo_set ho⟩
        have HP2 : Hid (((t[k]'(by omega)) = true → s[k]'(by omega) = s'[k]'(by omega)) → okTo selfN (onB t') (atI s') s t (k + 1) = true) := fun hy => okTo_succ HST.out (okAt_is (k := k) (by show k < _; omega) (by show k < _; omega) (fun h => by rw [atI, getD_at (show k < s'.length by omega)]; exact hy h))
        have HPN : Hid (t'[k] = true → (t[k]'(by omega)) = true → ¬ s[k]'(by omega) = s'[k]'(by omega) → okTo selfN (onB t') (atI s') s t t'.length = false) := fun hy h1 h2 => okTo_false hlt (okAt_not (k := k) (by rw [onB, getD_at hlt, hy]) (by show k < _; omega) (by show k < _; omega) h1 (by rw [atI, getD_at (show k < s'.length by omega)]; exact h2))
        have f1 : wr.frozen? ⟨g1, k, none⟩ = false := HR1.out.frozen _
        have f2 : wr.frozen? ⟨g2, k, none⟩ = false := HR2.out.frozen _
        have i0 : (0 : Int) ≤ k := by omega
        have i1 : (k : Int) < s.length := by omega
        have i2 : (k : Int) < t.length := by omega
        have i3 : (k : Int) < s'.length := by omega
        have i4 : (k : Int) < t'.length := by omega
        have hml1 : k < (ints (pixTo selfN (onB t') (atI s') s k)).length := by simp [pixTo_len]; omega
        have hml2 : k < (bools (donTo selfN (onB t') t k)).length := by simp [donTo_len]; omega
        have HM1 := Lib.hid hml1
        have HM2 := Lib.hid hml2
        obtain ⟨uu1, x5⟩ : ∃ u, wr.cell? ⟨g1, k, none⟩ = some u := ⟨_, by rw [HR1.out.cell, List.getElem?_append_left hml1, List.getElem?_eq_getElem hml1]⟩
        obtain ⟨uu2, x6⟩ : ∃ u, wr.cell? ⟨g2, k, none⟩ = some u := ⟨_, by rw [HR2.out.cell, List.getElem?_append_left hml2, List.getElem?_eq_getElem hml2]⟩
        clear hcell hcell' hcell'' hcell3 hml1 hml2
        generalize s[k]'(by omega) = v1 at *
        generalize s'[k]'(by omega) = v2 at *
        generalize t[k]'(by omega) = v3 at *
        generalize t'[k] = v4 at *
        have n1 : ¬ w3.heap.size = g1 := by omega
        have n2 : ¬ w.heap.size + 1 = g1 := by omega
        have n3 : ¬ g1 = w3.heap.size := by omega
        have n4 : ¬ g1 = w.heap.size + 1 := by omega
        have n5 : ¬ g2 = w3.heap.size := by omega
        have n6 : ¬ g2 = w.heap.size + 1 := by omega
        clear hN hL1 hL3 hL2
        cases v4
        case false =>
          obtain ⟨e1, e2, e3⟩ := HP0.out rfl
          have E1 := Lib.hid e1
          have E2 := Lib.hid e2
          have E3 := Lib.hid e3
          clear e1 e2 e3 x5 x6
          go_wp2_with fail
          go_quiet (fail)
          go_wp2_with fail
          go_roundw
          case rel => exact ⟨k + 1, by omega, by go_num, E3.out, by rw [E1.out]; exact (by repeat (first | (with_reducible exact HR1.out) | ((with_reducible refine Own.far ?_ ?_ _); rotate_left; (first | omega | (simp <;> omega))) | (with_reducible refine Own.alloc ?_ _) | (with_reducible refine Own.drewN ?_ _) | (with_reducible refine Own.drew ?_) | (with_reducible refine Own.step (by assumption) ?_))), by rw [E2.out]; exact (by repeat (first | (with_reducible exact HR2.out) | ((with_reducible refine Own.far ?_ ?_ _); rotate_left; (first | omega | (simp <;> omega))) | (with_reducible refine Own.alloc ?_ _) | (with_reducible refine Own.drewN ?_ _) | (with_reducible refine Own.drew ?_) | (with_reducible refine Own.step (by assumption) ?_))), by first | exact Only.drewN HO.out _ | exact Only.drew HO.out⟩
          case measure => simp [intOf]; omega
        case true =>
          obtain ⟨e1, e2⟩ := HP1.out rfl
          have E1 := Lib.hid e1
          have E2 := Lib.hid e2
          clear e1 e2
          by_cases hc : v3 = true ∧ ¬ v1 = v2
          · obtain ⟨rfl, hne⟩ := hc
            have hne' : (v1 != v2) = true := by simpa using hne
            have HV : Hid (FilmMR (mergeFOk W H s t W H s' t') W H (pixM s s' t') (donM t t') w = FilmMR false W H (pixM s s' t') (donM t t') w) := by show _ = _; rw [q5.out, HPN.out rfl rfl hne]
            clear hne x5 x6
            go_wp2_with fail
            go_quiet (fail)
            go_wp2_with fail
            rw [HV.out]
            exact bodyPost_ret (v := .tuple #[vFilm 0 0 (.slice none 0 0) (.slice none 0 0), .bool false]) (by simp [results, Try.results58, go_sem, *]) rfl (FilmMR.no (by repeat (first | (with_reducible exact Below.refl _ _) | (with_reducible exact HBW.out) | (with_reducible assumption) | ((with_reducible refine Below.alloc ?_ ?_ _); rotate_left; (first | omega | (simp <;> omega))) | ((with_reducible refine Below.setCell ?_ ?_ _); rotate_left; (first | omega | (simp <;> omega))) | (with_reducible refine below_drewN ?_ _) | (with_reducible refine Below.drew ?_) | ((with_reducible refine Below.step (by assumption) ?_ ?_); rotate_left; (first | omega | (simp <;> omega))))))
          · have E3 := Lib.hid (HP2.out (fun h => by by_cases e : v1 = v2; exact e; exact absurd ⟨h, e⟩ hc))
            have hcc : (v3 && (v1 != v2)) = false := by
              cases v3
              · rfl
              · by_cases e : v1 = v2
                · simp [e]
                · exact absurd ⟨rfl, e⟩ hc
            clear hc er0 er1 er2 er3 erf
            have key : ∀ W1 : World, Own W1 g1 3 (ints (pixTo selfN (onB t') (atI s') s k) ++ d1) → Own W1 g2 4 (bools (donTo selfN (onB t') t k) ++ d2) → Only (w3.heap.size + 1) [g1, g2] (w3.alloc (.cells #[.int .i64 W, .int .i64 H, .slice (some ⟨g1, 0, none⟩) s.length k1, .slice (some ⟨g2, 0, none⟩) t.length k2] 98)) W1 →
                Own (W1.setCell ⟨g2, k, none⟩ (.bool true)) g1 3 (ints (pixTo selfN (onB t') (atI s') s k) ++ d1) ∧ Own (W1.setCell ⟨g2, k, none⟩ (.bool true)) g2 4 (bools (donTo selfN (onB t') t (k + 1)) ++ d2) ∧ Only (w3.heap.size + 1) [g1, g2] (w3.alloc (.cells #[.int .i64 W, .int .i64 H, .slice (some ⟨g1, 0, none⟩) s.length k1, .slice (some ⟨g2, 0, none⟩) t.length k2] 98)) (W1.setCell ⟨g2, k, none⟩ (.bool true)) := fun W1 a1 a2 a3 =>
              ⟨Own.far a1 hg12 _, by rw [← E2.out]; exact Own.set_left a2 _ HM2.out _, Only.setCell (p := ⟨g2, k, none⟩) a3 (by simp) _⟩
            have KEY := Lib.hid key
            clear key
            cases v3
            case false =>
              go_wp2_with fail
              go_quiet (fail)
              go_wp2_with fail
              obtain ⟨a1, a2, a3⟩ := KEY.out _ (Own.drewN HR1.out nq) (Own.drewN HR2.out nq) (Only.drewN HO.out nq)
              generalize hwy : World.setCell _ (⟨g2, k, none⟩ : Addr) _ = wy at *
              clear hwy e00 e01 e02 e03 e12 e22 e23 x1 x2 x3 x4 x5 x6 f1 f2
              obtain ⟨y1, y2, y3⟩ := HC.out _ a3
              have y4 : wy.frozen? ⟨g1, k, none⟩ = false := a1.frozen _
              obtain ⟨yu, y5⟩ : ∃ u, wy.cell? ⟨g1, k, none⟩ = some u := ⟨_, by rw [a1.cell, List.getElem?_append_left HM1.out, List.getElem?_eq_getElem HM1.out]⟩
              have HY1 := Lib.hid a1
              have HY2 := Lib.hid a2
              have HYO := Lib.hid a3
              clear a1 a2 a3
              go_still_tail 9, (by kernel_rfl)
              go_wp2
              go_roundw
              case rel => exact ⟨k + 1, by omega, by go_num, E3.out, by rw [← E1.out]; exact Own.drew (Own.set_left HY1.out _ HM1.out _), Own.drew (Own.far HY2.out (fun e => hg12 e.symm) _), Only.drew (Only.setCell (p := ⟨g1, k, none⟩) HYO.out (by simp) _)⟩
              case measure => simp [intOf]; omega
            case true =>
              obtain rfl : v1 = v2 := by simpa using hcc
              have hvv : (v1 != v1) = false := by simp
              clear hcc
              go_wp2_with fail
              go_quiet (fail)
              go_wp2_with fail
              obtain ⟨a1, a2, a3⟩ := KEY.out _ (Own.drewN HR1.out nq) (Own.drewN HR2.out nq) (Only.drewN HO.out nq)
              generalize hwy : World.setCell _ (⟨g2, k, none⟩ : Addr) _ = wy at *
              clear hwy e00 e01 e02 e03 e12 e22 e23 x1 x2 x3 x4 x5 x6 f1 f2
              obtain ⟨y1, y2, y3⟩ := HC.out _ a3
              have y4 : wy.frozen? ⟨g1, k, none⟩ = false := a1.frozen _
              obtain ⟨yu, y5⟩ : ∃ u, wy.cell? ⟨g1, k, none⟩ = some u := ⟨_, by rw [a1.cell, List.getElem?_append_left HM1.out, List.getElem?_eq_getElem HM1.out]⟩
              have HY1 := Lib.hid a1
              have HY2 := Lib.hid a2
              have HYO := Lib.hid a3
              clear a1 a2 a3
              go_still_tail 9, (by kernel_rfl)
              go_wp2
              go_roundw
              case rel => exact ⟨k + 1, by omega, by go_num, E3.out, by rw [← E1.out]; exact Own.drew (Own.set_left HY1.out _ HM1.out _), Own.drew (Own.far HY2.out (fun e => hg12 e.symm) _), Only.drew (Only.setCell (p := ⟨g1, k, none⟩) HYO.out (by simp) _)⟩
              case measure => simp [intOf]; omega
      · obtain rfl : k = t'.length := by omega
        have HV : Hid (FilmMR (mergeFOk W H s t W H s' t') W H (pixM s s' t') (donM t t') w = FilmMR true W H (pixM s s' t') (donM t t') w) := by show _ = _; rw [q5.out, HST.out]
        have m1 : OwnS wr 1 (some ⟨g1, 0, none⟩) s.length k1 3 (ints (pixM s s' t')) := OwnS.of_block HR1.out (by rw [List.length_map, Nat.mul_one]; exact pixTo_len _ _) k1a (by unfold maxLen; omega)
        have m2 : OwnS wr 1 (some ⟨g2, 0, none⟩) t.length k2 4 (bools (donM t t')) := OwnS.of_block HR2.out (by rw [List.length_map, Nat.mul_one]; exact donTo_len _ _) k2a (by unfold maxLen; omega)
        have E1 : Hid ((pixM s s' t').length = s.length) := pixTo_len _ _
        have E2 : Hid ((donM t t').length = t.length) := donTo_len _ _
        go_wp2
        rw [HV.out]
        refine bodyPost_ret (v := .tuple #[vFilm W H (.slice (some ⟨g1, 0, none⟩) s.length k1) (.slice (some ⟨g2, 0, none⟩) t.length k2), .bool true]) (by simp [results, Try.results58, go_sem, *]) rfl ?_
        unfold FilmMR
        simp only [if_true]
        rw [E1.out, E2.out]
        refine ⟨_, _, _, _, rfl, ?_, ?_, (fun x hx => by simp [gOf] at hx; omega), (fun x hx => by simp [gOf] at hx; omega), (fun x hx hy => by simp [gOf] at hx hy; omega), (by repeat (first | (with_reducible exact Below.refl _ _) | (with_reducible exact HBW.out) | (with_reducible assumption) | ((with_reducible refine Below.alloc ?_ ?_ _); rotate_left; (first | omega | (simp <;> omega))) | ((with_reducible refine Below.setCell ?_ ?_ _); rotate_left; (first | omega | (simp <;> omega))) | (with_reducible refine below_drewN ?_ _) | (with_reducible refine Below.drew ?_) | ((with_reducible refine Below.step (by assumption) ?_ ?_); rotate_left; (first | omega | (simp <;> omega)))))⟩
        · exact (by repeat (first | (with_reducible exact m1) | (with_reducible refine OwnS.drew ?_) | (with_reducible refine OwnS.drewN ?_ _) | ((with_reducible refine OwnS.far ?_ ?_ _); rotate_left; (intro x hx; simp [gOf] at hx; simp; omega))))
        · exact (by repeat (first | (with_reducible exact m2) | (with_reducible refine OwnS.drew ?_) | (with_reducible refine OwnS.drewN ?_ _) | ((with_reducible refine OwnS.far ?_ ?_ _); rotate_left; (intro x hx; simp [gOf] at hx; simp; omega))))
  all_goals
    have HV : Hid (FilmMR (mergeFOk W H s t W' H' s' t') W H (pixM s s' t') (donM t t') w = FilmMR false W H (pixM s s' t') (donM t t') w) := by show _ = _; rw [q5.out]
    go_enter Try.func58, Try.ntmps58
    go_wp2_with fail
    refine (S_IsValidFilm _ (RS.step (by repeat (first | (with_reducible exact Below.refl _ _) | (with_reducible assumption) | ((with_reducible refine Below.alloc ?_ ?_ _); rotate_left; (first | omega | (simp <;> omega))) | ((with_reducible refine Below.setCell ?_ ?_ _); rotate_left; (first | omega | (simp <;> omega))) | (with_reducible refine below_drewN ?_ _) | (with_reducible refine Below.drew ?_) | ((with_reducible refine Below.step (by assumption) ?_ ?_); rotate_left; (first | omega | (simp <;> omega))))) H1.out) (RS.step (by repeat (first | (with_reducible exact Below.refl _ _) | (with_reducible assumption) | ((with_reducible refine Below.alloc ?_ ?_ _); rotate_left; (first | omega | (simp <;> omega))) | ((with_reducible refine Below.setCell ?_ ?_ _); rotate_left; (first | omega | (simp <;> omega))) | (with_reducible refine below_drewN ?_ _) | (with_reducible refine Below.drew ?_) | ((with_reducible refine Below.step (by assumption) ?_ ?_); rotate_left; (first | omega | (simp <;> omega))))) H2.out)).mono ?_
    rintro e w1 ⟨rfl, hb1⟩
    have hz1 := hb1.size
    (try simp at hz1)
    obtain ⟨cc1, ff1⟩ := bcell (hb1.mono (show w.heap.size + 3 ≤ _ by first | omega | (simp <;> omega)))
    have ya1 : w.heap.size < w1.heap.size := by omega
    have yb1 : w.heap.size + 1 < w1.heap.size := by omega
    have yc1 : w.heap.size + 1 + 1 < w1.heap.size := by omega
    have hB1 : Below w.heap.size w w1 := (by repeat (first | (with_reducible exact Below.refl _ _) | (with_reducible assumption) | ((with_reducible refine Below.alloc ?_ ?_ _); rotate_left; (first | omega | (simp <;> omega))) | ((with_reducible refine Below.setCell ?_ ?_ _); rotate_left; (first | omega | (simp <;> omega))) | (with_reducible refine below_drewN ?_ _) | (with_reducible refine Below.drew ?_) | ((with_reducible refine Below.step (by assumption) ?_ ?_); rotate_left; (first | omega | (simp <;> omega)))))
    go_wp2_with fail
    refine (S_IsValidFilm _ (RS.step hB1 H3.out) (RS.step hB1 H4.out)).mono ?_
    rintro e w2 ⟨rfl, hb2⟩
    have hz2 := hb2.size
    (try simp at hz2)
    obtain ⟨cc2, ff2⟩ := bcell (hb2.mono (show w.heap.size + 3 ≤ _ by first | omega | (simp <;> omega)))
    have ya2 : w.heap.size < w2.heap.size := by omega
    have yb2 : w.heap.size + 1 < w2.heap.size := by omega
    have yc2 : w.heap.size + 1 + 1 < w2.heap.size := by omega
    have hB2 : Below w.heap.size w w2 := (by repeat (first | (with_reducible exact Below.refl _ _) | (with_reducible assumption) | ((with_reducible refine Below.alloc ?_ ?_ _); rotate_left; (first | omega | (simp <;> omega))) | ((with_reducible refine Below.setCell ?_ ?_ _); rotate_left; (first | omega | (simp <;> omega))) | (with_reducible refine below_drewN ?_ _) | (with_reducible refine Below.drew ?_) | ((with_reducible refine Below.step (by assumption) ?_ ?_); rotate_left; (first | omega | (simp <;> omega)))))
    go_wp2
    rw [HV.out]
    exact bodyPost_ret (v := .tuple #[vFilm 0 0 (.slice none 0 0) (.slice none 0 0), .bool false]) (by simp [results, Try.results58, go_sem, *]) rfl (FilmMR.no (by repeat (first | (with_reducible exact Below.refl _ _) | (with_reducible assumption) | ((with_reducible refine Below.alloc ?_ ?_ _); rotate_left; (first | omega | (simp <;> omega))) | ((with_reducible refine Below.setCell ?_ ?_ _); rotate_left; (first | omega | (simp <;> omega))) | (with_reducible refine below_drewN ?_ _) | (with_reducible refine Below.drew ?_) | ((with_reducible refine Below.step (by assumption) ?_ ?_); rotate_left; (first | omega | (simp <;> omega))))))
end Go.Proofs.Ythfnldjldfkmnaa
