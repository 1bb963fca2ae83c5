/- MergeFilms of the program. -/
import Derived.Test.YthfnldjldfkmnaaFilmP
import Derived.Test.YthfnldjldfkmnaaPut
import Derived.BigQuiet
import Derived.Deep.QuietTactic
import Derived.StillTailTactics
namespace Go.Proofs.Ythfnldjldfkmnaa
open Go.RowKit
set_option linter.unusedVariables false
set_option maxRecDepth 100000
set_option maxHeartbeats 8000000 in
theorem I_MergeFilms {W H W' H' : Int} {A B A' B' : Option Addr} {c d c' d' : Nat} {s s' : List Int} {t t' : List Bool} (w : World) (h : RS w 1 A s.length c (ints s)) (h2 : RS w 1 B t.length d (bools t)) (h3 : RS w 1 A' s'.length c' (ints s')) (h4 : RS w 1 B' t'.length d' (bools t')) :
    Calls Try.prog 60 #[vFilm W H (.slice A s.length c) (.slice B t.length d), vFilm W' H' (.slice A' s'.length c') (.slice B' t'.length d')] w (FilmMR (mergeFOk W H s t W' H' s' t') W H (pixM s s' t') (donM t t') w) := by
  have n1 := h.len
  have n2 := h2.len
  have n3 := h3.len
  have n4 := h4.len
  unfold maxLen at n1 n2 n3 n4
  have H1 := Lib.hid h
  have H2 := Lib.hid h2
  have H3 := Lib.hid h3
  have H4 := Lib.hid h4
  clear h h2 h3 h4
  rcases mergeF_ways W H s t W' H' s' t' with ⟨q1, q2, q3, q4, q5⟩ | ⟨q1, q5⟩ | ⟨q1, q2, q5⟩ | ⟨q1, q2, q3, q5⟩ | ⟨q1, q2, q3, q4, q5⟩
  case inr.inl =>
    have HV : Hid (FilmMR (mergeFOk W H s t W' H' s' t') W H (pixM s s' t') (donM t t') w = FilmMR false W H (pixM s s' t') (donM t t') w) := by show _ = _; rw [q5.out]
    go_enter Try.func60, Try.ntmps60
    go_wp2_with fail
    refine (I_IsValidFilm _ (RS.step (by repeat (first | (with_reducible exact Below.refl _ _) | (with_reducible assumption) | ((with_reducible refine Below.alloc ?_ ?_ _); rotate_left; (first | omega | (simp <;> omega))) | ((with_reducible refine Below.setCell ?_ ?_ _); rotate_left; (first | omega | (simp <;> omega))) | (with_reducible refine below_drewN ?_ _) | (with_reducible refine Below.drew ?_) | ((with_reducible refine Below.step (by assumption) ?_ ?_); rotate_left; (first | omega | (simp <;> omega))))) H1.out) (RS.step (by repeat (first | (with_reducible exact Below.refl _ _) | (with_reducible assumption) | ((with_reducible refine Below.alloc ?_ ?_ _); rotate_left; (first | omega | (simp <;> omega))) | ((with_reducible refine Below.setCell ?_ ?_ _); rotate_left; (first | omega | (simp <;> omega))) | (with_reducible refine below_drewN ?_ _) | (with_reducible refine Below.drew ?_) | ((with_reducible refine Below.step (by assumption) ?_ ?_); rotate_left; (first | omega | (simp <;> omega))))) H2.out)).mono ?_
    rintro e w' ⟨rfl, hb⟩; have hz := hb.size; (try simp at hz); have c0 := fun o => hb.cell (p := ⟨w.heap.size, o, none⟩) (by first | omega | (simp <;> omega)); have f0 := fun o => hb.frozen (p := ⟨w.heap.size, o, none⟩) (by first | omega | (simp <;> omega)); have z0 : w.heap.size < w'.heap.size := (by omega); have c1 := fun o => hb.cell (p := ⟨w.heap.size + 1, o, none⟩) (by first | omega | (simp <;> omega)); have f1 := fun o => hb.frozen (p := ⟨w.heap.size + 1, o, none⟩) (by first | omega | (simp <;> omega)); have z1 : w.heap.size + 1 < w'.heap.size := (by omega); have c2 := fun o => hb.cell (p := ⟨w.heap.size + 1 + 1, o, none⟩) (by first | omega | (simp <;> omega)); have f2 := fun o => hb.frozen (p := ⟨w.heap.size + 1 + 1, o, none⟩) (by first | omega | (simp <;> omega)); have z2 : w.heap.size + 1 + 1 < w'.heap.size := (by omega)
    go_wp2
    rw [HV.out]
    exact bodyPost_ret (v := .tuple #[vFilm 0 0 (.slice none 0 0) (.slice none 0 0), .bool false]) (by simp [results, Try.results60, go_sem, *]) rfl (FilmMR.no (by repeat (first | (with_reducible exact Below.refl _ _) | (with_reducible assumption) | ((with_reducible refine Below.alloc ?_ ?_ _); rotate_left; (first | omega | (simp <;> omega))) | ((with_reducible refine Below.setCell ?_ ?_ _); rotate_left; (first | omega | (simp <;> omega))) | (with_reducible refine below_drewN ?_ _) | (with_reducible refine Below.drew ?_) | ((with_reducible refine Below.step (by assumption) ?_ ?_); rotate_left; (first | omega | (simp <;> omega))))))
  case inl =>
    have e1 : W = W' := by simpa using q3
    have e2 : H = H' := by simpa using q4
    subst e1; subst e2
    obtain ⟨sz, a2, a3, _, _, _, _, a5, a4⟩ := validFilm_true q1
    obtain ⟨_, b2, b3, _, _, _, _, b5, b4⟩ := validFilm_true q2
    have hpos := (area_rng sz).1
    have L1 : Hid (s.length = s'.length) := by show s.length = s'.length; omega
    have L2 : Hid (t.length = t'.length) := by show t.length = t'.length; omega
    have L3 : Hid (s.length = t.length) := a4
    have p1 : 0 < s.length := by omega
    clear a2 a3 a4 b2 b3 b4 sz hpos
    go_enter Try.func60, Try.ntmps60
    go_wp2_with fail
    refine (I_IsValidFilm _ (RS.step (by repeat (first | (with_reducible exact Below.refl _ _) | (with_reducible assumption) | ((with_reducible refine Below.alloc ?_ ?_ _); rotate_left; (first | omega | (simp <;> omega))) | ((with_reducible refine Below.setCell ?_ ?_ _); rotate_left; (first | omega | (simp <;> omega))) | (with_reducible refine below_drewN ?_ _) | (with_reducible refine Below.drew ?_) | ((with_reducible refine Below.step (by assumption) ?_ ?_); rotate_left; (first | omega | (simp <;> omega))))) H1.out) (RS.step (by repeat (first | (with_reducible exact Below.refl _ _) | (with_reducible assumption) | ((with_reducible refine Below.alloc ?_ ?_ _); rotate_left; (first | omega | (simp <;> omega))) | ((with_reducible refine Below.setCell ?_ ?_ _); rotate_left; (first | omega | (simp <;> omega))) | (with_reducible refine below_drewN ?_ _) | (with_reducible refine Below.drew ?_) | ((with_reducible refine Below.step (by assumption) ?_ ?_); rotate_left; (first | omega | (simp <;> omega))))) H2.out)).mono ?_
    rintro e w1 ⟨rfl, hb1⟩
    have hz1 := hb1.size
    (try simp at hz1)
    obtain ⟨cc1, ff1⟩ := bcell (hb1.mono (show w.heap.size + 3 ≤ _ by first | omega | (simp <;> omega)))
    have ya1 : w.heap.size < w1.heap.size := by omega
    have yb1 : w.heap.size + 1 < w1.heap.size := by omega
    have yc1 : w.heap.size + 1 + 1 < w1.heap.size := by omega
    have hB1 : Below w.heap.size w w1 := (by repeat (first | (with_reducible exact Below.refl _ _) | (with_reducible assumption) | ((with_reducible refine Below.alloc ?_ ?_ _); rotate_left; (first | omega | (simp <;> omega))) | ((with_reducible refine Below.setCell ?_ ?_ _); rotate_left; (first | omega | (simp <;> omega))) | (with_reducible refine below_drewN ?_ _) | (with_reducible refine Below.drew ?_) | ((with_reducible refine Below.step (by assumption) ?_ ?_); rotate_left; (first | omega | (simp <;> omega)))))
    go_wp2_with fail
    refine (I_IsValidFilm _ (RS.step hB1 H3.out) (RS.step hB1 H4.out)).mono ?_
    rintro e w2 ⟨rfl, hb2⟩
    have hz2 := hb2.size
    (try simp at hz2)
    obtain ⟨cc2, ff2⟩ := bcell (hb2.mono (show w.heap.size + 3 ≤ _ by first | omega | (simp <;> omega)))
    have ya2 : w.heap.size < w2.heap.size := by omega
    have yb2 : w.heap.size + 1 < w2.heap.size := by omega
    have yc2 : w.heap.size + 1 + 1 < w2.heap.size := by omega
    have hB2 : Below w.heap.size w w2 := (by repeat (first | (with_reducible exact Below.refl _ _) | (with_reducible assumption) | ((with_reducible refine Below.alloc ?_ ?_ _); rotate_left; (first | omega | (simp <;> omega))) | ((with_reducible refine Below.setCell ?_ ?_ _); rotate_left; (first | omega | (simp <;> omega))) | (with_reducible refine below_drewN ?_ _) | (with_reducible refine Below.drew ?_) | ((with_reducible refine Below.step (by assumption) ?_ ?_); rotate_left; (first | omega | (simp <;> omega)))))
    go_wp2_with fail
    refine (I_copyFilm _ (by omega) (by have := L3.out; omega) (RS.step (by repeat (first | (with_reducible exact Below.refl _ _) | (with_reducible assumption) | ((with_reducible refine Below.alloc ?_ ?_ _); rotate_left; (first | omega | (simp <;> omega))) | ((with_reducible refine Below.setCell ?_ ?_ _); rotate_left; (first | omega | (simp <;> omega))) | (with_reducible refine below_drewN ?_ _) | (with_reducible refine Below.drew ?_) | ((with_reducible refine Below.step (by assumption) ?_ ?_); rotate_left; (first | omega | (simp <;> omega))))) H1.out) (RS.step (by repeat (first | (with_reducible exact Below.refl _ _) | (with_reducible assumption) | ((with_reducible refine Below.alloc ?_ ?_ _); rotate_left; (first | omega | (simp <;> omega))) | ((with_reducible refine Below.setCell ?_ ?_ _); rotate_left; (first | omega | (simp <;> omega))) | (with_reducible refine below_drewN ?_ _) | (with_reducible refine Below.drew ?_) | ((with_reducible refine Below.step (by assumption) ?_ ?_); rotate_left; (first | omega | (simp <;> omega))))) H2.out)).mono ?_
    rintro e w3 ⟨P1, k1, P2, k2, rfl, o1, o2, ge1, ge2, hd, hb3⟩
    have hz3 := hb3.size
    (try simp at hz3)
    obtain ⟨cc3, ff3⟩ := bcell (hb3.mono (show w.heap.size + 3 ≤ _ by first | omega | (simp <;> omega)))
    have ya3 : w.heap.size < w3.heap.size := by omega
    have yb3 : w.heap.size + 1 < w3.heap.size := by omega
    have yc3 : w.heap.size + 1 + 1 < w3.heap.size := by omega
    have hB3 : Below w.heap.size w w3 := (by repeat (first | (with_reducible exact Below.refl _ _) | (with_reducible assumption) | ((with_reducible refine Below.alloc ?_ ?_ _); rotate_left; (first | omega | (simp <;> omega))) | ((with_reducible refine Below.setCell ?_ ?_ _); rotate_left; (first | omega | (simp <;> omega))) | (with_reducible refine below_drewN ?_ _) | (with_reducible refine Below.drew ?_) | ((with_reducible refine Below.step (by assumption) ?_ ?_); rotate_left; (first | omega | (simp <;> omega)))))
    have HA3 := Lib.hid (RS.step hB3 H3.out)
    obtain ⟨g1, d1, rfl, o1, k1a, k1b⟩ := OwnS.block o1 p1
    obtain ⟨g2, d2, rfl, o2, k2a, k2b⟩ := OwnS.block o2 (by have := L3.out; omega)
    have hg1 := ge1 g1 (by simp [gOf])
    have hg2 := ge2 g2 (by simp [gOf])
    have hg12 : g1 ≠ g2 := fun e => hd g1 (by simp [gOf]) (by simp [gOf, e])
    have hl1 := o1.lt
    have hl2 := o2.lt
    clear ge1 ge2 hd
    unfold maxLen at k1b k2b
    go_wp2_with fail
    have hn4 : t'.length = s.length := by have := L2.out; have := L3.out; omega
    have HN4 := Lib.hid hn4
    clear hn4
    go_loopw [7, 8, 39] (fun _ _ i wr => ∃ k : Nat, k ≤ t'.length ∧ i = .int .i64 k ∧ okTo selfN (onB t') (atI s') s t k = true ∧ Own wr w3.heap.size 183 (gcells W H g1 g2 s.length t.length k1 k2) ∧ Own wr g1 3 (ints (pixTo selfN (onB t') (atI s') s k) ++ d1) ∧ Own wr g2 4 (bools (donTo selfN (onB t') t k) ++ d2) ∧ Only (w3.heap.size + 1) [w3.heap.size, g1, g2] (w3.alloc (.cells #[.int .i32 0, .int .u32 0, .int .i64 W, .int .i64 H, .slice (some ⟨g1, 0, none⟩) s.length k1, .slice (some ⟨g2, 0, none⟩) t.length k2] 183)) wr) (fun _ _ i _ => t'.length - (intOf i).toNat)
    case atStart => exact ⟨0, Nat.zero_le _, rfl, rfl, Own.new _ _ _, o1.alloc _, o2.alloc _, Only.refl _ _ _⟩
    case round =>
      obtain ⟨k, hk, rfl, hst, r0, r1, r2, hO⟩ := hrel
      have HST := Lib.hid hst
      clear hst
      have hN := HN4.out
      have hL1 := L1.out
      have hL3 := L3.out
      have hbw : Below w.heap.size w wr := Below.trans (Below.alloc hB3 (by omega) _) (hO.below (by omega) (fun x hx => by simp at hx; omega))
      have hOz := hO.size
      (try simp at hOz)
      obtain ⟨oc1, of1⟩ := hO.cell (w.heap.size + 1) (by omega) (by simp; omega)
      obtain ⟨oc4, of4⟩ := hO.cell (w.heap.size + 1 + 1) (by omega) (by simp; omega)
      have ha3 : (w3.alloc (.cells #[.int .i32 0, .int .u32 0, .int .i64 W, .int .i64 H, .slice (some ⟨g1, 0, none⟩) s.length k1, .slice (some ⟨g2, 0, none⟩) t.length k2] 183)).cell? ⟨w.heap.size + 1, 2, none⟩ = some (.slice A' s'.length c') := by go_simp
      have ha4 : (w3.alloc (.cells #[.int .i32 0, .int .u32 0, .int .i64 W, .int .i64 H, .slice (some ⟨g1, 0, none⟩) s.length k1, .slice (some ⟨g2, 0, none⟩) t.length k2] 183)).cell? ⟨w.heap.size + 1, 3, none⟩ = some (.slice B' t'.length d') := by go_simp
      have hr0 : ∀ j, j < 4 → ((w3.alloc (.cells #[.int .i32 0, .int .u32 0, .int .i64 W, .int .i64 H, .slice (some ⟨g1, 0, none⟩) s.length k1, .slice (some ⟨g2, 0, none⟩) t.length k2] 183)).cell? ⟨w.heap.size + 1 + 1, j, none⟩).isSome = true := by
        intro j hj
        match j, hj with
        | 0, _ => go_simp
        | 1, _ => go_simp
        | 2, _ => go_simp
        | 3, _ => go_simp
      obtain ⟨ue0, er0⟩ : ∃ u, wr.cell? ⟨w.heap.size + 1 + 1, 0, none⟩ = some u := Option.isSome_iff_exists.1 (by rw [oc4 0]; exact hr0 0 (by omega))
      obtain ⟨ue1, er1⟩ : ∃ u, wr.cell? ⟨w.heap.size + 1 + 1, 1, none⟩ = some u := Option.isSome_iff_exists.1 (by rw [oc4 1]; exact hr0 1 (by omega))
      obtain ⟨ue2, er2⟩ : ∃ u, wr.cell? ⟨w.heap.size + 1 + 1, 2, none⟩ = some u := Option.isSome_iff_exists.1 (by rw [oc4 2]; exact hr0 2 (by omega))
      obtain ⟨ue3, er3⟩ : ∃ u, wr.cell? ⟨w.heap.size + 1 + 1, 3, none⟩ = some u := Option.isSome_iff_exists.1 (by rw [oc4 3]; exact hr0 3 (by omega))
      have erf : ∀ j, wr.frozen? ⟨w.heap.size + 1 + 1, j, none⟩ = false := by intro j; rw [of4 j]; go_simp
      have e12 : wr.cell? ⟨w.heap.size + 1, 2, none⟩ = some (.slice A' s'.length c') := (oc1 2).trans ha3
      have e13 : wr.cell? ⟨w.heap.size + 1, 3, none⟩ = some (.slice B' t'.length d') := (oc1 3).trans ha4
      have e02 := r0.cell 2
      have e03 := r0.cell 3
      have e04 := r0.cell 4
      have e05 := r0.cell 5
      simp only [gcells, List.getElem?_cons_zero, List.getElem?_cons_succ] at e02 e03 e04 e05
      have HR0 := Lib.hid r0
      have HR1 := Lib.hid r1
      have HR2 := Lib.hid r2
      have HO := Lib.hid hO
      have HBW := Lib.hid hbw
      clear hr0 oc4 of4 r0 r1 r2 hO hbw oc1 of1 ha3 ha4
      by_cases hlt : k < t'.length
      · have hL2 := L2.out
        obtain ⟨b, o, rfl, hbh, hcell⟩ := (RS.step HBW.out H3.out).open_.2.2 (by omega)
        obtain ⟨b', o', rfl, hbh', hcell'⟩ := (RS.step HBW.out H4.out).open_.2.2 (by omega)
        have x1 : wr.cell? ⟨b, o + k, none⟩ = some (.int .i64 (s'[k]'(by omega))) := by rw [hcell k (by omega), ints_at (by omega)]
        have x2 : wr.cell? ⟨b', o' + k, none⟩ = some (.bool t'[k]) := by rw [hcell' k (by omega), bools_at hlt]
        have hpk : ∀ h : k < (pixTo selfN (onB t') (atI s') s k).length, (pixTo selfN (onB t') (atI s') s k)[k] = s[k]'(by omega) := fun h => by
          have := pixTo_far (at_ := selfN) (on := onB t') (v := atI s') s (i := k) k (fun j hj => by show j ≠ k; omega)
          rw [List.getElem?_eq_getElem h, List.getElem?_eq_getElem (by omega)] at this
          exact Option.some.inj this
        have hdk : ∀ h : k < (donTo selfN (onB t') t k).length, (donTo selfN (onB t') t k)[k] = t[k]'(by omega) := fun h => by
          have := donTo_far (at_ := selfN) (on := onB t') t (i := k) k (fun j hj => by show j ≠ k; omega)
          rw [List.getElem?_eq_getElem h, List.getElem?_eq_getElem (by omega)] at this
          exact Option.some.inj this
        have HP0 : Hid (t'[k] = false → pixTo selfN (onB t') (atI s') s (k + 1) = pixTo selfN (onB t') (atI s') s k ∧ donTo selfN (onB t') t (k + 1) = donTo selfN (onB t') t k ∧ okTo selfN (onB t') (atI s') s t (k + 1) = true) := fun hy => by
          have ho : onB t' k = false := by rw [onB, getD_at hlt, hy]
          exact ⟨pixTo_off ho, donTo_off ho, okTo_succ HST.out (okAt_off ho)⟩
        have HP2 : Hid (((t[k]'(by omega)) = true → s[k]'(by omega) = s'[k]'(by omega)) → okTo selfN (onB t') (atI s') s t (k + 1) = true) := fun hy => okTo_succ HST.out (okAt_is (k := k) (by show k < _; omega) (by show k < _; omega) (fun h => by rw [atI, getD_at (show k < s'.length by omega)]; exact hy h))
        have HPN : Hid (t'[k] = true → (t[k]'(by omega)) = true → ¬ s[k]'(by omega) = s'[k]'(by omega) → okTo selfN (onB t') (atI s') s t t'.length = false) := fun hy h1 h2 => okTo_false hlt (okAt_not (k := k) (by rw [onB, getD_at hlt, hy]) (by show k < _; omega) (by show k < _; omega) h1 (by rw [atI, getD_at (show k < s'.length by omega)]; exact h2))
        have HPY : Hid (t'[k] = true → ((t[k]'(by omega)) = true → s[k]'(by omega) = s'[k]'(by omega)) → ∀ wx, Own wx w3.heap.size 183 (gcells W H g1 g2 s.length t.length k1 k2) → Own wx g1 3 (ints (pixTo selfN (onB t') (atI s') s k) ++ d1) → Own wx g2 4 (bools (donTo selfN (onB t') t k) ++ d2) →
            Calls Try.prog 140 #[.pointer (some ⟨w3.heap.size, 0, none⟩), .int .i64 k, .int .i64 (s'[k]'(by omega))] wx fun e w' => e = .returned (.bool true) ∧ Own w' w3.heap.size 183 (gcells W H g1 g2 s.length t.length k1 k2) ∧
              Own w' g1 3 (ints (pixTo selfN (onB t') (atI s') s (k + 1)) ++ d1) ∧ Own w' g2 4 (bools (donTo selfN (onB t') t (k + 1)) ++ d2) ∧ Only wx.heap.size [w3.heap.size, g1, g2] wx w') := fun hy hc wx a0 a1 a2 => by
          have ho : onB t' k = true := by rw [onB, getD_at hlt, hy]
          have hv : atI s' k = s'[k]'(by omega) := getD_at _ _
          have hlp : (pixTo selfN (onB t') (atI s') s k).length = s.length := pixTo_len _ _
          have hld : (donTo selfN (onB t') t k).length = t.length := donTo_len _ _
          have q := I_put_yes (G := w3.heap.size) (g1 := g1) (g2 := g2) (k1 := k1) (k2 := k2) (k := k) (W := W) (H := H) (v := s'[k]'(by omega)) (s := pixTo selfN (onB t') (atI s') s k) (t := donTo selfN (onB t') t k) (d1 := d1) (d2 := d2) wx (by rw [hlp, hld]; exact a0) a1 a2 (by omega) (by omega) (by omega) (by omega) (by omega) (by omega) hg12 (by rw [hpk, hdk]; exact hc)
          rw [hlp, hld] at q
          rw [← pixTo_on ho, ← donTo_on ho, hv]
          exact q
        have HPX : Hid (t'[k] = true → (t[k]'(by omega)) = true → ¬ s[k]'(by omega) = s'[k]'(by omega) → ∀ wx, Own wx w3.heap.size 183 (gcells W H g1 g2 s.length t.length k1 k2) → Own wx g1 3 (ints (pixTo selfN (onB t') (atI s') s k) ++ d1) → Own wx g2 4 (bools (donTo selfN (onB t') t k) ++ d2) →
            Calls Try.prog 140 #[.pointer (some ⟨w3.heap.size, 0, none⟩), .int .i64 k, .int .i64 (s'[k]'(by omega))] wx fun e w' => e = .returned (.bool false) ∧ Own w' w3.heap.size 183 (gcells W H g1 g2 s.length t.length k1 k2) ∧ Only wx.heap.size [w3.heap.size] wx w') := fun hy hc hne wx a0 a1 a2 => by
          have hlp : (pixTo selfN (onB t') (atI s') s k).length = s.length := pixTo_len _ _
          have hld : (donTo selfN (onB t') t k).length = t.length := donTo_len _ _
          have q := I_put_no (G := w3.heap.size) (g1 := g1) (g2 := g2) (k1 := k1) (k2 := k2) (k := k) (W := W) (H := H) (v := s'[k]'(by omega)) (s := pixTo selfN (onB t') (atI s') s k) (t := donTo selfN (onB t') t k) (d1 := d1) (d2 := d2) wx (by rw [hlp, hld]; exact a0) a1 a2 (by omega) (by omega) (by omega) (by omega) (by omega) (by omega) (by rw [hdk]; exact hc) (by rw [hpk]; exact hne)
          rw [hlp, hld] at q
          exact q
        have i0 : (0 : Int) ≤ k := by omega
        have i3 : (k : Int) < s'.length := by omega
        have i4 : (k : Int) < t'.length := by omega
        clear hcell hcell' hpk hdk
        generalize s[k]'(by omega) = v1 at *
        generalize s'[k]'(by omega) = v2 at *
        generalize t[k]'(by omega) = v3 at *
        generalize t'[k] = v4 at *
        clear hN hL1 hL3 hL2
        cases v4
        case false =>
          obtain ⟨e1, e2, e3⟩ := HP0.out rfl
          have E1 := Lib.hid e1
          have E2 := Lib.hid e2
          have E3 := Lib.hid e3
          clear e1 e2 e3 e02 e03 e04 e05 er0 er1 er2 er3 erf
          go_wp2_with fail
          go_roundw
          case rel => exact ⟨k + 1, by omega, by go_num, E3.out, HR0.out, by rw [E1.out]; exact (by repeat (first | (with_reducible exact HR1.out) | ((with_reducible refine Own.far ?_ ?_ _); rotate_left; (first | omega | (simp <;> omega))) | (with_reducible refine Own.alloc ?_ _) | (with_reducible refine Own.drewN ?_ _) | (with_reducible refine Own.drew ?_) | (with_reducible refine Own.step (by assumption) ?_))), by rw [E2.out]; exact (by repeat (first | (with_reducible exact HR2.out) | ((with_reducible refine Own.far ?_ ?_ _); rotate_left; (first | omega | (simp <;> omega))) | (with_reducible refine Own.alloc ?_ _) | (with_reducible refine Own.drewN ?_ _) | (with_reducible refine Own.drew ?_) | (with_reducible refine Own.step (by assumption) ?_))), HO.out⟩
          case measure => simp [intOf]; omega
        case true =>
          by_cases hc : v3 = true ∧ ¬ v1 = v2
          · obtain ⟨rfl, hne⟩ := hc
            have HV : Hid (FilmMR (mergeFOk W H s t W H s' t') W H (pixM s s' t') (donM t t') w = FilmMR false W H (pixM s s' t') (donM t t') w) := by show _ = _; rw [q5.out, HPN.out rfl rfl hne]
            have HX := Lib.hid (HPX.out rfl rfl hne)
            clear hne
            go_wp2_with fail
            refine (HX.out _ HR0.out HR1.out HR2.out).mono ?_
            rintro e w4 ⟨rfl, p0, hO4⟩
            obtain ⟨pc, pf⟩ := hO4.cell (w.heap.size + 1 + 1) (by omega) (by simp; omega)
            have hz4 := hO4.size
            have hB4 : Below w.heap.size w w4 := Below.trans HBW.out (hO4.below (by omega) (fun x hx => by simp at hx; omega))
            clear p0 hO4
            go_wp2
            rw [HV.out]
            exact bodyPost_ret (v := .tuple #[vFilm 0 0 (.slice none 0 0) (.slice none 0 0), .bool false]) (by simp [results, Try.results60, go_sem, *]) rfl (FilmMR.no (by repeat (first | (with_reducible exact Below.refl _ _) | (with_reducible exact hB4) | (with_reducible assumption) | ((with_reducible refine Below.alloc ?_ ?_ _); rotate_left; (first | omega | (simp <;> omega))) | ((with_reducible refine Below.setCell ?_ ?_ _); rotate_left; (first | omega | (simp <;> omega))) | (with_reducible refine below_drewN ?_ _) | (with_reducible refine Below.drew ?_) | ((with_reducible refine Below.step (by assumption) ?_ ?_); rotate_left; (first | omega | (simp <;> omega))))))
          · have hc' : v3 = true → v1 = v2 := fun h => by by_cases e : v1 = v2; exact e; exact absurd ⟨h, e⟩ hc
            have E3 := Lib.hid (HP2.out hc')
            have HX := Lib.hid (HPY.out rfl hc')
            clear hc hc' er0 er1 er2 er3 erf e02 e03 e04 e05
            go_wp2_with fail
            refine (HX.out _ HR0.out HR1.out HR2.out).mono ?_
            rintro e w4 ⟨rfl, p0, p1', p2', hO4⟩
            have hz4 := hO4.size
            have P0 := Lib.hid p0
            have P1 := Lib.hid p1'
            have P2 := Lib.hid p2'
            have PO : Hid (Only (w3.heap.size + 1) [w3.heap.size, g1, g2] (w3.alloc (.cells #[.int .i32 0, .int .u32 0, .int .i64 W, .int .i64 H, .slice (some ⟨g1, 0, none⟩) s.length k1, .slice (some ⟨g2, 0, none⟩) t.length k2] 183)) w4) := Lib.hid (Only.trans HO.out hO4 (by omega) (fun x hx => hx))
            clear p0 p1' p2' hO4
            go_wp2
            go_roundw
            case rel => exact ⟨k + 1, by omega, by go_num, E3.out, P0.out, P1.out, P2.out, PO.out⟩
            case measure => simp [intOf]; omega
      · obtain rfl : k = t'.length := by omega
        have HV : Hid (FilmMR (mergeFOk W H s t W H s' t') W H (pixM s s' t') (donM t t') w = FilmMR true W H (pixM s s' t') (donM t t') w) := by show _ = _; rw [q5.out, HST.out]
        have m1 : OwnS wr 1 (some ⟨g1, 0, none⟩) s.length k1 3 (ints (pixM s s' t')) := OwnS.of_block HR1.out (by rw [List.length_map, Nat.mul_one]; exact pixTo_len _ _) k1a (by unfold maxLen; omega)
        have m2 : OwnS wr 1 (some ⟨g2, 0, none⟩) t.length k2 4 (bools (donM t t')) := OwnS.of_block HR2.out (by rw [List.length_map, Nat.mul_one]; exact donTo_len _ _) k2a (by unfold maxLen; omega)
        have E1 : Hid ((pixM s s' t').length = s.length) := pixTo_len _ _
        have E2 : Hid ((donM t t').length = t.length) := donTo_len _ _
        go_wp2
        rw [HV.out]
        refine bodyPost_ret (v := .tuple #[vFilm W H (.slice (some ⟨g1, 0, none⟩) s.length k1) (.slice (some ⟨g2, 0, none⟩) t.length k2), .bool true]) (by simp [results, Try.results60, go_sem, *]) rfl ?_
        unfold FilmMR
        simp only [if_true]
        rw [E1.out, E2.out]
        refine ⟨_, _, _, _, rfl, ?_, ?_, (fun x hx => by simp [gOf] at hx; omega), (fun x hx => by simp [gOf] at hx; omega), (fun x hx hy => by simp [gOf] at hx hy; omega), (by repeat (first | (with_reducible exact Below.refl _ _) | (with_reducible exact HBW.out) | (with_reducible assumption) | ((with_reducible refine Below.alloc ?_ ?_ _); rotate_left; (first | omega | (simp <;> omega))) | ((with_reducible refine Below.setCell ?_ ?_ _); rotate_left; (first | omega | (simp <;> omega))) | (with_reducible refine below_drewN ?_ _) | (with_reducible refine Below.drew ?_) | ((with_reducible refine Below.step (by assumption) ?_ ?_); rotate_left; (first | omega | (simp <;> omega)))))⟩
        · exact (by repeat (first | (with_reducible exact m1) | (with_reducible refine OwnS.drew ?_) | (with_reducible refine OwnS.drewN ?_ _) | ((with_reducible refine OwnS.far ?_ ?_ _); rotate_left; (intro x hx; simp [gOf] at hx; simp; omega))))
        · exact (by repeat (first | (with_reducible exact m2) | (with_reducible refine OwnS.drew ?_) | (with_reducible refine OwnS.drewN ?_ _) | ((with_reducible refine OwnS.far ?_ ?_ _); rotate_left; (intro x hx; simp [gOf] at hx; simp; omega))))
  all_goals
    have HV : Hid (FilmMR (mergeFOk W H s t W' H' s' t') W H (pixM s s' t') (donM t t') w = FilmMR false W H (pixM s s' t') (donM t t') w) := by show _ = _; rw [q5.out]
    go_enter Try.func60, Try.ntmps60
    go_wp2_with fail
    refine (I_IsValidFilm _ (RS.step (by repeat (first | (with_reducible exact Below.refl _ _) | (with_reducible assumption) | ((with_reducible refine Below.alloc ?_ ?_ _); rotate_left; (first | omega | (simp <;> omega))) | ((with_reducible refine Below.setCell ?_ ?_ _); rotate_left; (first | omega | (simp <;> omega))) | (with_reducible refine below_drewN ?_ _) | (with_reducible refine Below.drew ?_) | ((with_reducible refine Below.step (by assumption) ?_ ?_); rotate_left; (first | omega | (simp <;> omega))))) H1.out) (RS.step (by repeat (first | (with_reducible exact Below.refl _ _) | (with_reducible assumption) | ((with_reducible refine Below.alloc ?_ ?_ _); rotate_left; (first | omega | (simp <;> omega))) | ((with_reducible refine Below.setCell ?_ ?_ _); rotate_left; (first | omega | (simp <;> omega))) | (with_reducible refine below_drewN ?_ _) | (with_reducible refine Below.drew ?_) | ((with_reducible refine Below.step (by assumption) ?_ ?_); rotate_left; (first | omega | (simp <;> omega))))) H2.out)).mono ?_
    rintro e w1 ⟨rfl, hb1⟩
    have hz1 := hb1.size
    (try simp at hz1)
    obtain ⟨cc1, ff1⟩ := bcell (hb1.mono (show w.heap.size + 3 ≤ _ by first | omega | (simp <;> omega)))
    have ya1 : w.heap.size < w1.heap.size := by omega
    have yb1 : w.heap.size + 1 < w1.heap.size := by omega
    have yc1 : w.heap.size + 1 + 1 < w1.heap.size := by omega
    have hB1 : Below w.heap.size w w1 := (by repeat (first | (with_reducible exact Below.refl _ _) | (with_reducible assumption) | ((with_reducible refine Below.alloc ?_ ?_ _); rotate_left; (first | omega | (simp <;> omega))) | ((with_reducible refine Below.setCell ?_ ?_ _); rotate_left; (first | omega | (simp <;> omega))) | (with_reducible refine below_drewN ?_ _) | (with_reducible refine Below.drew ?_) | ((with_reducible refine Below.step (by assumption) ?_ ?_); rotate_left; (first | omega | (simp <;> omega)))))
    go_wp2_with fail
    refine (I_IsValidFilm _ (RS.step hB1 H3.out) (RS.step hB1 H4.out)).mono ?_
    rintro e w2 ⟨rfl, hb2⟩
    have hz2 := hb2.size
    (try simp at hz2)
    obtain ⟨cc2, ff2⟩ := bcell (hb2.mono (show w.heap.size + 3 ≤ _ by first | omega | (simp <;> omega)))
    have ya2 : w.heap.size < w2.heap.size := by omega
    have yb2 : w.heap.size + 1 < w2.heap.size := by omega
    have yc2 : w.heap.size + 1 + 1 < w2.heap.size := by omega
    have hB2 : Below w.heap.size w w2 := (by repeat (first | (with_reducible exact Below.refl _ _) | (with_reducible assumption) | ((with_reducible refine Below.alloc ?_ ?_ _); rotate_left; (first | omega | (simp <;> omega))) | ((with_reducible refine Below.setCell ?_ ?_ _); rotate_left; (first | omega | (simp <;> omega))) | (with_reducible refine below_drewN ?_ _) | (with_reducible refine Below.drew ?_) | ((with_reducible refine Below.step (by assumption) ?_ ?_); rotate_left; (first | omega | (simp <;> omega)))))
    go_wp2
    rw [HV.out]
    exact bodyPost_ret (v := .tuple #[vFilm 0 0 (.slice none 0 0) (.slice none 0 0), .bool false]) (by simp [results, Try.results60, go_sem, *]) rfl (FilmMR.no (by repeat (first | (with_reducible exact Below.refl _ _) | (with_reducible assumption) | ((with_reducible refine Below.alloc ?_ ?_ _); rotate_left; (first | omega | (simp <;> omega))) | ((with_reducible refine Below.setCell ?_ ?_ _); rotate_left; (first | omega | (simp <;> omega))) | (with_reducible refine below_drewN ?_ _) | (with_reducible refine Below.drew ?_) | ((with_reducible refine Below.step (by assumption) ?_ ?_); rotate_left; (first | omega | (simp <;> omega))))))
end Go.Proofs.Ythfnldjldfkmnaa
