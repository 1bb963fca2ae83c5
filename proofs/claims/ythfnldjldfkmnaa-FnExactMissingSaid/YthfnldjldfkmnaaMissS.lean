/- Missing of the reference. -/
import Derived.Test.YthfnldjldfkmnaaMissP
import Derived.BigQuiet
import Derived.Deep.QuietTactic
namespace Go.Proofs.Ythfnldjldfkmnaa
open Go.RowKit
set_option linter.unusedVariables false
set_option maxRecDepth 100000
set_option maxHeartbeats 8000000 in
theorem S_Missing {W H : Int} {A B C : Option Addr} {c d f : Nat} {s : List Int} {t : List Bool} {l : List EBucket} (w : World) (hm : l.length ≤ 1048576) (h : RS w 1 A s.length c (ints s)) (h2 : RS w 1 B t.length d (bools t)) (h3 : RS w 4 C l.length f (rBucket l)) :
    Calls Try.prog 65 #[vFilm W H (.slice A s.length c) (.slice B t.length d), .slice C l.length f] w (MadeRow 3 1 (missF W H s t l).length (ints (missF W H s t l)) w) := by
  have n1 := h.len
  have n2 := h2.len
  have n3 := h3.len
  unfold maxLen at n1 n2 n3
  have H1 := Lib.hid h
  have H2 := Lib.hid h2
  have H3 := Lib.hid h3
  clear h h2 h3
  cases hv : validFilm W H s t
  case false =>
    have HV : Hid (MadeRow 3 1 (missF W H s t l).length (ints (missF W H s t l)) w = MadeRow 3 1 0 [] w) := by show _ = _; rw [show missF W H s t l = [] by unfold missF; rw [hv]; rfl]; rfl
    go_enter Try.func65, Try.ntmps65
    go_wp2_with fail
    refine (S_IsValidFilm _ (RS.step (by repeat (first | (with_reducible exact Below.refl _ _) | (with_reducible assumption) | ((with_reducible refine Below.alloc ?_ ?_ _); rotate_left; (first | omega | (simp <;> omega))) | ((with_reducible refine Below.setCell ?_ ?_ _); rotate_left; (first | omega | (simp <;> omega))) | (with_reducible refine below_drewN ?_ _) | (with_reducible refine Below.drew ?_) | ((with_reducible refine Below.step (by assumption) ?_ ?_); rotate_left; (first | omega | (simp <;> omega))))) H1.out) (RS.step (by repeat (first | (with_reducible exact Below.refl _ _) | (with_reducible assumption) | ((with_reducible refine Below.alloc ?_ ?_ _); rotate_left; (first | omega | (simp <;> omega))) | ((with_reducible refine Below.setCell ?_ ?_ _); rotate_left; (first | omega | (simp <;> omega))) | (with_reducible refine below_drewN ?_ _) | (with_reducible refine Below.drew ?_) | ((with_reducible refine Below.step (by assumption) ?_ ?_); rotate_left; (first | omega | (simp <;> omega))))) H2.out)).mono ?_
    rintro e w' ⟨rfl, hb⟩; have hz := hb.size; (try simp at hz); have c0 := fun o => hb.cell (p := ⟨w.heap.size, o, none⟩) (by first | omega | (simp <;> omega)); have f0 := fun o => hb.frozen (p := ⟨w.heap.size, o, none⟩) (by first | omega | (simp <;> omega)); have z0 : w.heap.size < w'.heap.size := (by omega); have c1 := fun o => hb.cell (p := ⟨w.heap.size + 1, o, none⟩) (by first | omega | (simp <;> omega)); have f1 := fun o => hb.frozen (p := ⟨w.heap.size + 1, o, none⟩) (by first | omega | (simp <;> omega)); have z1 : w.heap.size + 1 < w'.heap.size := (by omega)
    go_wp2
    rw [HV.out]
    go_ret
    exact MadeRow.none_ _ _ _ (by repeat (first | (with_reducible exact Below.refl _ _) | (with_reducible assumption) | ((with_reducible refine Below.alloc ?_ ?_ _); rotate_left; (first | omega | (simp <;> omega))) | ((with_reducible refine Below.setCell ?_ ?_ _); rotate_left; (first | omega | (simp <;> omega))) | (with_reducible refine below_drewN ?_ _) | (with_reducible refine Below.drew ?_) | ((with_reducible refine Below.step (by assumption) ?_ ?_); rotate_left; (first | omega | (simp <;> omega)))))
  case true =>
    obtain ⟨⟨hW1, hW2⟩, ⟨hH1, hH2⟩, h144⟩ := validFilm_small hv
    have HV : Hid (MadeRow 3 1 (missF W H s t l).length (ints (missF W H s t l)) w = MadeRow 3 1 (missTo (missOn W H t l) l.length).length (ints (missTo (missOn W H t l) l.length)) w) := by show _ = _; unfold missF; rw [hv]; rfl
    have HVF := Lib.hid hv
    go_enter Try.func65, Try.ntmps65
    go_wp2_with fail
    refine (S_IsValidFilm _ (RS.step (by repeat (first | (with_reducible exact Below.refl _ _) | (with_reducible assumption) | ((with_reducible refine Below.alloc ?_ ?_ _); rotate_left; (first | omega | (simp <;> omega))) | ((with_reducible refine Below.setCell ?_ ?_ _); rotate_left; (first | omega | (simp <;> omega))) | (with_reducible refine below_drewN ?_ _) | (with_reducible refine Below.drew ?_) | ((with_reducible refine Below.step (by assumption) ?_ ?_); rotate_left; (first | omega | (simp <;> omega))))) H1.out) (RS.step (by repeat (first | (with_reducible exact Below.refl _ _) | (with_reducible assumption) | ((with_reducible refine Below.alloc ?_ ?_ _); rotate_left; (first | omega | (simp <;> omega))) | ((with_reducible refine Below.setCell ?_ ?_ _); rotate_left; (first | omega | (simp <;> omega))) | (with_reducible refine below_drewN ?_ _) | (with_reducible refine Below.drew ?_) | ((with_reducible refine Below.step (by assumption) ?_ ?_); rotate_left; (first | omega | (simp <;> omega))))) H2.out)).mono ?_
    rintro e w1 ⟨rfl, hb1⟩
    have hz1 := hb1.size
    (try simp at hz1)
    obtain ⟨cc1, ff1⟩ := bcell (hb1.mono (show w.heap.size + 2 ≤ _ by first | omega | (simp <;> omega)))
    have z10 : w.heap.size < w1.heap.size := by omega
    have z11 : w.heap.size + 1 < w1.heap.size := by omega
    have hB1 : Below w.heap.size w w1 := (by repeat (first | (with_reducible exact Below.refl _ _) | (with_reducible assumption) | ((with_reducible refine Below.alloc ?_ ?_ _); rotate_left; (first | omega | (simp <;> omega))) | ((with_reducible refine Below.setCell ?_ ?_ _); rotate_left; (first | omega | (simp <;> omega))) | (with_reducible refine below_drewN ?_ _) | (with_reducible refine Below.drew ?_) | ((with_reducible refine Below.step (by assumption) ?_ ?_); rotate_left; (first | omega | (simp <;> omega)))))
    have HB1 := Lib.hid hB1
    have HG0 : Hid (Grow w1 (w.heap.size + 1) 3 1 (some ⟨w.heap.size + 1, 0, none⟩) 0 0 []) := Grow.step hb1 (Grow.lit_at (cs := #[]) (n := 0) (by simp) rfl (by simp) (Nat.zero_le _))
    have k20 : w1.cell? ⟨w.heap.size, 0, none⟩ = some (.int .i64 W) := by go_simp
    have k21 : w1.cell? ⟨w.heap.size, 1, none⟩ = some (.int .i64 H) := by go_simp
    have k22 : w1.cell? ⟨w.heap.size, 2, none⟩ = some (.slice A s.length c) := by go_simp
    have k23 : w1.cell? ⟨w.heap.size, 3, none⟩ = some (.slice B t.length d) := by go_simp
    have K20 := Lib.hid (And.intro k20 (And.intro k21 (And.intro k22 k23)))
    clear hb1 hB1 k20 k21 k22 k23 cc1 ff1
    go_wp2_with fail
    clear hv
    go_loopw [5, 6, 7, 8, 9, 16] (fun o _ _ _ _ i wr => ∃ (k : Nat) (Q : Option Addr) (n d : Nat), k ≤ l.length ∧ i = .int .i64 k ∧ o = .slice Q n d ∧ Grow wr (w.heap.size + 1) 3 1 Q n d (ints (missTo (missOn W H t l) k)) ∧ Below (w.heap.size + 1) w1 wr) (fun _ _ _ _ _ i _ => l.length - (intOf i).toNat)
    case atStart => exact ⟨0, _, _, _, Nat.zero_le _, rfl, rfl, HG0.out, Below.refl _ _⟩
    case round =>
      obtain ⟨wo, rfl⟩ : ∃ wo, wo = wr := ⟨_, rfl⟩
      obtain ⟨k, Q, n, d', hk, rfl, rfl, hg, hb⟩ := hrel
      have hsz := hb.size
      obtain ⟨cb, fb⟩ := bcell hb
      obtain ⟨k0, k1, k2, k3⟩ := K20.out
      have e20 := (cb w.heap.size 0 (by omega)).trans k0
      have e21 := (cb w.heap.size 1 (by omega)).trans k1
      have e22 := (cb w.heap.size 2 (by omega)).trans k2
      have e23 := (cb w.heap.size 3 (by omega)).trans k3
      have hlm := missTo_len (missOn W H t l) k
      have hnl : n = (missTo (missOn W H t l) k).length := by have := hg.len; simp at this; omega
      have hn : n ≤ k := by omega
      have HNL := Lib.hid hnl
      have hbw : Below w.heap.size w wo := Below.trans HB1.out (hb.mono (by omega))
      have HGr := Lib.hid hg
      have HB := Lib.hid hb
      have HBW := Lib.hid hbw
      have HR2 := Lib.hid (RS.step hbw H2.out)
      have HR3 := Lib.hid (RS.step hbw H3.out)
      have zr0 : w.heap.size < wo.heap.size := by omega
      have zr1 : w.heap.size + 1 < wo.heap.size := by omega
      clear hg hb hbw cb fb k0 k1 k2 k3 hlm hnl
      by_cases hlt : k < l.length
      · obtain ⟨b, off, rfl, hbh, hcell⟩ := HR3.out.open_.2.2 (by omega)
        obtain ⟨q0, q1, q2, q3⟩ := rBucket_at (l := l) hlt
        have d0 : wo.cell? ⟨b, off + k * 4, none⟩ = some (.int .i64 l[k].1) := by rw [hcell _ (by omega), q0]
        have d1 : wo.cell? ⟨b, off + k * 4 + 1, none⟩ = some (.int .i64 l[k].2.1) := by rw [show off + k * 4 + 1 = off + (k * 4 + 1) by omega, hcell _ (by omega), q1]
        have d2 : wo.cell? ⟨b, off + k * 4 + 2, none⟩ = some (.int .i64 l[k].2.2.1) := by rw [show off + k * 4 + 2 = off + (k * 4 + 2) by omega, hcell _ (by omega), q2]
        have d3 : wo.cell? ⟨b, off + k * 4 + 3, none⟩ = some (.int .i64 l[k].2.2.2) := by rw [show off + k * 4 + 3 = off + (k * 4 + 3) by omega, hcell _ (by omega), q3]
        have i1 : (0 : Int) ≤ k := by omega
        have i2 : (k : Int) < l.length := by omega
        have y0' : IntKind.i64.wrap ((k : Int) + 1) = (k : Int) + 1 := IntWalk.i64_in _ (by omega)
        have HON := Lib.hid (missOn_at (W := W) (H := H) (t := t) hlt)
        have HREL : Hid (k + 1 ≤ l.length) := by show _ ≤ _; omega
        clear hcell q0 q1 q2 q3
        generalize l[k].1 = x at *
        generalize l[k].2.1 = y at *
        generalize l[k].2.2.1 = p at *
        generalize l[k].2.2.2 = q at *
        cases hi : insideF x y p q W H
        case false =>
          have HOFF : Hid (missTo (missOn W H t l) (k + 1) = missTo (missOn W H t l) k) := by show _ = _; exact missTo_off (by rw [HON.out]; unfold bOpen; rw [hi]; rfl)
          go_wp2_with fail
          go_loopw [8, 9] (fun o i wr => o = .bool false ∧ i = .int .i64 0 ∧ Below (wo.heap.size + 1) (wo.alloc (.cells #[.int .i64 x, .int .i64 y, .int .i64 p, .int .i64 q] 55)) wr) (fun _ _ _ => 0)
          case atStart => exact ⟨rfl, rfl, Below.refl _ _⟩
          case round =>
            obtain ⟨rfl, rfl, hbi⟩ := hrel
            have hzi := hbi.size
            (try simp at hzi)
            obtain ⟨cbi, fbi⟩ := bcell hbi
            have m20 : wr.cell? ⟨w.heap.size, 0, none⟩ = some (.int .i64 W) := by go_simp
            have m21 : wr.cell? ⟨w.heap.size, 1, none⟩ = some (.int .i64 H) := by go_simp
            have m22 : wr.cell? ⟨w.heap.size, 2, none⟩ = some (.slice A s.length c) := by go_simp
            have m23 : wr.cell? ⟨w.heap.size, 3, none⟩ = some (.slice B t.length d) := by go_simp
            have m30 : wr.cell? ⟨wo.heap.size, 0, none⟩ = some (.int .i64 x) := by go_simp
            have m31 : wr.cell? ⟨wo.heap.size, 1, none⟩ = some (.int .i64 y) := by go_simp
            have m32 : wr.cell? ⟨wo.heap.size, 2, none⟩ = some (.int .i64 p) := by go_simp
            have m33 : wr.cell? ⟨wo.heap.size, 3, none⟩ = some (.int .i64 q) := by go_simp
            have HBI := Lib.hid hbi
            clear hbi cbi fbi e20 e21 e22 e23 d0 d1 d2 d3
            go_wp2_with fail
            refine (S_inside _ ⟨hW1, hW2⟩ ⟨hH1, hH2⟩).mono ?_
            rintro e w3 ⟨rfl, hb3⟩
            have hz3 := hb3.size
            have hB3w : Below wo.heap.size wo w3 := Below.trans (Below.alloc (Below.refl _ _) (Nat.le_refl _) _) (Below.trans (HBI.out.mono (by omega)) (hb3.mono (by omega)))
            have hB3 : Below (w.heap.size + 1) w1 w3 := Below.trans HB.out (hB3w.mono (by omega))
            have HB3 := Lib.hid hB3
            rw [hi]
            have HG3 : Hid (Grow w3 (w.heap.size + 1) 3 1 Q n d' (ints (missTo (missOn W H t l) k))) := Grow.step hB3w HGr.out
            clear hB3w
            clear hb3 hB3
            go_wp2_with fail
            go_roundw
            case rel => exact ⟨k + 1, _, _, _, HREL.out, by go_num, rfl, by rw [HOFF.out]; exact HG3.out, HB3.out⟩
            case measure => simp [intOf]; omega
        case true =>
          obtain ⟨a, bb, xn, yn, pn, qn, rfl, rfl, rfl, rfl, rfl, rfl, ⟨a1, a2⟩, ⟨b1, b2⟩, hxp, hyq, hp1, hq1, hsl, htl⟩ := film_nat HVF.out hi
          have hpq : pn * qn ≤ 12 * 12 := Nat.mul_le_mul (by omega) (by omega)
          have hpw : IntKind.i64.wrap ((pn : Int) * (qn : Int)) = ((pn * qn : Nat) : Int) := by rw [show (pn : Int) * (qn : Int) = ((pn * qn : Nat) : Int) by simp]; exact IntWalk.i64_in _ (by omega)
          have HAT : Hid (∀ j, j < pn * qn → bAt a xn yn pn j < t.length ∧ j / pn < qn ∧ j % pn < pn) := fun j hj => by rw [htl]; exact bAt_lt hp1 hxp hyq hj
          have ht144 : t.length ≤ 144 := by omega
          obtain ⟨N, hN⟩ : ∃ N, pn * qn = N := ⟨_, rfl⟩
          have HOPEN : Hid (missOn a bb t l k = anyOpen a xn yn pn t N) := by show _ = _; rw [HON.out]; unfold bOpen; rw [hi, Bool.true_and]; simp only [Int.toNat_natCast]; rw [hN]
          rw [hN] at hpw hpq
          rw [hN] at HAT
          have HHI := Lib.hid hi
          clear hN hsl htl hi HON
          go_wp2_with fail
          go_loopw [8, 9] (fun o i wr => ∃ j : Nat, j ≤ N ∧ o = .bool (anyOpen a xn yn pn t j) ∧ i = .int .i64 j ∧ Below (wo.heap.size + 1) (wo.alloc (.cells #[.int .i64 xn, .int .i64 yn, .int .i64 pn, .int .i64 qn] 55)) wr) (fun _ i _ => N - (intOf i).toNat)
          case atStart => exact ⟨0, Nat.zero_le _, rfl, rfl, Below.refl _ _⟩
          case round =>
            obtain ⟨j, hj, rfl, rfl, hbi⟩ := hrel
            have hzi := hbi.size
            (try simp at hzi)
            obtain ⟨cbi, fbi⟩ := bcell hbi
            have m20 : wr.cell? ⟨w.heap.size, 0, none⟩ = some (.int .i64 a) := by go_simp
            have m21 : wr.cell? ⟨w.heap.size, 1, none⟩ = some (.int .i64 bb) := by go_simp
            have m22 : wr.cell? ⟨w.heap.size, 2, none⟩ = some (.slice A s.length c) := by go_simp
            have m23 : wr.cell? ⟨w.heap.size, 3, none⟩ = some (.slice B t.length d) := by go_simp
            have m30 : wr.cell? ⟨wo.heap.size, 0, none⟩ = some (.int .i64 xn) := by go_simp
            have m31 : wr.cell? ⟨wo.heap.size, 1, none⟩ = some (.int .i64 yn) := by go_simp
            have m32 : wr.cell? ⟨wo.heap.size, 2, none⟩ = some (.int .i64 pn) := by go_simp
            have m33 : wr.cell? ⟨wo.heap.size, 3, none⟩ = some (.int .i64 qn) := by go_simp
            have HBI := Lib.hid hbi
            have j0 : (0 : Int) ≤ j := by omega
            have y1' : IntKind.i64.wrap ((j : Int) + 1) = (j : Int) + 1 := IntWalk.i64_in _ (by omega)
            clear hbi cbi fbi e20 e21 e22 e23 d0 d1 d2 d3
            go_wp2_with fail
            refine (S_inside _ ⟨hW1, hW2⟩ ⟨hH1, hH2⟩).mono ?_
            rintro e w3 ⟨rfl, hb3⟩
            have hz3 := hb3.size
            obtain ⟨cb3, fb3⟩ := bcell hb3
            have hz31 : w.heap.size < wr.heap.size := by omega
            have hz32 : wo.heap.size < wr.heap.size := by omega
            have o20 := (cb3 w.heap.size 0 hz31).trans m20
            have o21 := (cb3 w.heap.size 1 hz31).trans m21
            have o22 := (cb3 w.heap.size 2 hz31).trans m22
            have o23 := (cb3 w.heap.size 3 hz31).trans m23
            have o30 := (cb3 wo.heap.size 0 hz32).trans m30
            have o31 := (cb3 wo.heap.size 1 hz32).trans m31
            have o32 := (cb3 wo.heap.size 2 hz32).trans m32
            have o33 := (cb3 wo.heap.size 3 hz32).trans m33
            have hB3i : Below (wo.heap.size + 1) (wo.alloc (.cells #[.int .i64 xn, .int .i64 yn, .int .i64 pn, .int .i64 qn] 55)) w3 := HBI.out.trans (hb3.mono (by omega))
            have hB3w : Below wo.heap.size wo w3 := Below.trans (Below.alloc (Below.refl _ _) (Nat.le_refl _) _) (hB3i.mono (by omega))
            have hB3 : Below (w.heap.size + 1) w1 w3 := Below.trans HB.out (hB3w.mono (by omega))
            have HB3 := Lib.hid hB3
            have HB3I := Lib.hid hB3i
            have HB3W := Lib.hid hB3w
            rw [HHI.out]
            have HG3 : Hid (Grow w3 (w.heap.size + 1) 3 1 Q n d' (ints (missTo (missOn a bb t l) k))) := Grow.step hB3w HGr.out
            have HT3 := Lib.hid (RS.step hB3w HR2.out)
            clear hb3 hB3 hB3i hB3w m20 m21 m22 m23 m30 m31 m32 m33 cb3 fb3
            by_cases hjN : j < N
            · obtain ⟨hat, hkd, hkm⟩ := HAT.out j hjN
              obtain ⟨bt, ot, rfl, hbt, hct⟩ := HT3.out.open_.2.2 (by omega)
              obtain ⟨D, hD⟩ : ∃ D, j / pn = D := ⟨_, rfl⟩
              obtain ⟨M, hM⟩ : ∃ M, j % pn = M := ⟨_, rfl⟩
              obtain ⟨dv1, dv2, dv3⟩ := divs_of hD hM hp1
              have HATE : Hid (bAt a xn yn pn j = (yn + D) * a + (xn + M)) := by show _ = _; rw [bAt, hD, hM]
              obtain ⟨Z, hZ⟩ : ∃ Z, bAt a xn yn pn j = Z := ⟨_, rfl⟩
              have hma : (yn + D) * a ≤ 12 * 12 := Nat.mul_le_mul (by omega) (by omega)
              obtain ⟨R, hR⟩ : ∃ R, (yn + D) * a = R := ⟨_, rfl⟩
              have hZR : R + (xn + M) = Z := by rw [← hZ, HATE.out, hR]
              have hrc : ((yn : Int) + (D : Int)) * (a : Int) = (R : Int) := by rw [← hR]; simp
              have htZ : Z < t.length := by rw [← hZ]; exact hat
              have x5 : w3.cell? ⟨bt, ot + Z, none⟩ = some (.bool t[Z]) := by rw [hct Z (by omega), bools_at htZ]
              have HOJ : Hid (anyOpen a xn yn pn t (j + 1) = (anyOpen a xn yn pn t j || !t[Z])) := by show _ = _; subst hZ; rw [anyOpen_succ, openAt_at hat]
              have y2' : IntKind.i64.wrap ((yn : Int) + (D : Int)) = (yn : Int) + D := IntWalk.i64_in _ (by omega)
              have y3' : IntKind.i64.wrap (R : Int) = R := IntWalk.i64_in _ (by omega)
              have y4' : IntKind.i64.wrap ((R : Int) + (xn : Int)) = (R : Int) + xn := IntWalk.i64_in _ (by omega)
              have y5' : IntKind.i64.wrap ((R : Int) + (xn : Int) + (M : Int)) = (Z : Int) := by rw [show (R : Int) + (xn : Int) + (M : Int) = (Z : Int) by omega]; exact IntWalk.i64_in _ (by omega)
              have u1' : IntKind.i64.wrap (D : Int) = D := IntWalk.i64_in _ (by omega)
              have u2' : IntKind.i64.wrap (M : Int) = M := IntWalk.i64_in _ (by omega)
              have zz0 : (0 : Int) ≤ Z := by omega
              have zz1 : (Z : Int) < t.length := by omega
              have jlt : (j : Int) < (N : Int) := by omega
              have HREL2 : Hid (j + 1 ≤ N) := hjN
              clear hct hat hma hZ hR hkd hkm hM hD hZR
              generalize anyOpen a xn yn pn t j = v1 at *
              generalize t[Z] = v2 at *
              go_wp2_with fail
              cases v1
              case true =>
                go_wp2_with fail
                go_quiet (fail)
                go_wp2_with fail
                go_roundw
                case rel => exact ⟨j + 1, HREL2.out, by rw [HOJ.out]; rfl, by go_num, (by repeat (first | (with_reducible exact Below.refl _ _) | (with_reducible exact HB3I.out) | (with_reducible assumption) | ((with_reducible refine Below.alloc ?_ ?_ _); rotate_left; (first | omega | (simp <;> omega))) | ((with_reducible refine Below.setCell ?_ ?_ _); rotate_left; (first | omega | (simp <;> omega))) | (with_reducible refine below_drewN ?_ _) | (with_reducible refine Below.drew ?_) | ((with_reducible refine Below.step (by assumption) ?_ ?_); rotate_left; (first | omega | (simp <;> omega)))))⟩
                case measure => simp [intOf]; omega
              case false =>
                go_wp2_with fail
                go_quiet (fail)
                go_wp2_with fail
                go_roundw
                case rel => exact ⟨j + 1, HREL2.out, by rw [HOJ.out]; simp, by go_num, (by repeat (first | (with_reducible exact Below.refl _ _) | (with_reducible exact HB3I.out) | (with_reducible assumption) | ((with_reducible refine Below.alloc ?_ ?_ _); rotate_left; (first | omega | (simp <;> omega))) | ((with_reducible refine Below.setCell ?_ ?_ _); rotate_left; (first | omega | (simp <;> omega))) | (with_reducible refine below_drewN ?_ _) | (with_reducible refine Below.drew ?_) | ((with_reducible refine Below.step (by assumption) ?_ ?_); rotate_left; (first | omega | (simp <;> omega)))))⟩
                case measure => simp [intOf]; omega
            · obtain rfl : j = N := by omega
              have jlt : ¬ (j : Int) < (j : Int) := by omega
              cases ho : anyOpen a xn yn pn t j
              case true =>
                have HON2 : Hid (missTo (missOn a bb t l) (k + 1) = missTo (missOn a bb t l) k ++ [(k : Int)]) := by show _ = _; exact missTo_on (by rw [HOPEN.out, ho])
                go_wp2_with (at_builtin; refine wpList_app (by rfl) _ _ 36 (by rfl) (w.heap.size + 1) 3 (.int .i64 0) 1 8 Try.underlying36 T.infoInt rfl (by decide) (xs := ints (missTo (missOn a bb t l) k)) (by rfl) ?_ (ys := ints [(k : Int)]) (by rfl) ?_ (ints_one _) ?_ ?_ ?_ ?_; (exact (by repeat (first | (with_reducible exact HG3.out) | (with_reducible refine Grow.alloc ?_ _) | (with_reducible refine Grow.drewN ?_ _) | (with_reducible refine Grow.drew ?_) | ((with_reducible refine Grow.far ?_ ?_ _); rotate_left; (first | omega | (simp <;> omega))) | (with_reducible refine Grow.step (by assumption) ?_)))); (exact (Grow.rs (base := 0) (n := 1) (c := 1) (by repeat (first | (with_reducible refine Grow.drewN ?_ _) | (with_reducible refine Grow.drew ?_) | (refine Grow.lit_at (by simp) (by rfl) (Nat.zero_le _) (by unfold maxLen; omega)))))); (unfold maxLen; omega); (omega); (first | omega | (simp <;> omega)); rintro A' c' w2 gA; have HGA := Lib.hid gA.1; have HBA := Lib.hid (Below.trans (Below.alloc HB3.out (by omega) _) gA.2.1); clear gA)
                go_roundw
                case rel => exact ⟨k + 1, _, _, _, HREL.out, by go_num, rfl, by rw [HON2.out, ints_app]; exact HGA.out, HBA.out⟩
                case measure => simp [intOf]; omega
              case false =>
                have HOFF : Hid (missTo (missOn a bb t l) (k + 1) = missTo (missOn a bb t l) k) := by show _ = _; exact missTo_off (by rw [HOPEN.out, ho])
                go_wp2_with fail
                go_roundw
                case rel => exact ⟨k + 1, _, _, _, HREL.out, by go_num, rfl, by rw [HOFF.out]; exact HG3.out, HB3.out⟩
                case measure => simp [intOf]; omega
      · obtain rfl : k = l.length := by omega
        have hnn := HNL.out
        subst hnn
        go_wp2_with fail
        rw [HV.out]
        go_ret
        exact Grow.made HGr.out (by omega) HBW.out
end Go.Proofs.Ythfnldjldfkmnaa
