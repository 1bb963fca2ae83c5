/- Missing of the program. -/
import Derived.Test.YthpanpedoeghoaaMissP
import Derived.BigQuiet
import Derived.Deep.QuietTactic
set_option linter.unusedVariables false
set_option linter.unusedSimpArgs false
set_option linter.unnecessarySimpa false
namespace Go.Proofs.Ythpanpedoeghoaa
open Go.RowKit
set_option linter.unusedVariables false
set_option maxRecDepth 100000
/-- The cells of a film's box. -/
def FilmAt (w : World) (g : Nat) (W H : Int) (s t : Value) : Prop := w.cell? ⟨g, 0, none⟩ = some (.int .i64 W) ∧ w.cell? ⟨g, 1, none⟩ = some (.int .i64 H) ∧ w.cell? ⟨g, 2, none⟩ = some s ∧ w.cell? ⟨g, 3, none⟩ = some t
theorem FilmAt.lt {w : World} {g : Nat} {W H : Int} {s t : Value} (h : FilmAt w g W H s t) : g < w.heap.size := block_lt_of_cell h.1
theorem FilmAt.step {w w' : World} {g B : Nat} {W H : Int} {s t : Value} (hb : Below B w w') (hg : g < B) (h : FilmAt w g W H s t) : FilmAt w' g W H s t := by
  obtain ⟨cb, _⟩ := bcell hb
  exact ⟨(cb _ _ hg).trans h.1, (cb _ _ hg).trans h.2.1, (cb _ _ hg).trans h.2.2.1, (cb _ _ hg).trans h.2.2.2⟩
set_option maxHeartbeats 2000000 in
theorem I_Missing1 {X Y a Z g d : Nat} {H : Int} {B : Option Addr} {v : Value} {t : List Bool} (w : World) (hZ : Y * a + X = Z) (hlt : Z < t.length) (h144 : t.length ≤ 144) (hm : (Y * a) ≤ 144) (hf : FilmAt w g a H v (.slice B t.length d)) (h2 : RS w 1 B t.length d (bools t)) :
    Calls Try.prog 23 #[.agg #[.int .i64 X, .int .i64 Y], .pointer (some ⟨g, 0, none⟩)] w fun e w' => e = .returned (.bool (!t[Z])) ∧ Below w.heap.size w w' := by
  have hg := hf.lt
  obtain ⟨f0, f1, f2, f3⟩ := hf
  obtain ⟨bt, ot, rfl, hbt, hct⟩ := h2.open_.2.2 (by omega)
  have x5 : w.cell? ⟨bt, ot + Z, none⟩ = some (.bool t[Z]) := by rw [hct Z (by omega), bools_at hlt]
  have hrc : (Y : Int) * (a : Int) = ((Y * a : Nat) : Int) := by simp
  obtain ⟨R, hR⟩ : ∃ R, Y * a = R := ⟨_, rfl⟩
  rw [hR] at hrc hm hZ
  have y3' : IntKind.i64.wrap ((Y : Int) * (a : Int)) = (R : Int) := by rw [hrc]; exact IntWalk.i64_in _ (by omega)
  have y4' : IntKind.i64.wrap ((R : Int) + (X : Int)) = (Z : Int) := by rw [show (R : Int) + (X : Int) = (Z : Int) by omega]; exact IntWalk.i64_in _ (by omega)
  have zz0 : (0 : Int) ≤ Z := by omega
  have zz1 : (Z : Int) < t.length := by omega
  clear hct hrc hR hZ
  generalize t[Z] = v2 at *
  go_enter Try.func23, Try.ntmps23
  go_wp2
  go_ret
  exact ⟨rfl, (by repeat (first | (with_reducible exact Below.refl _ _) | (with_reducible assumption) | ((with_reducible refine Below.alloc ?_ ?_ _); rotate_left; (first | omega | (simp <;> omega))) | ((with_reducible refine Below.setCell ?_ ?_ _); rotate_left; (first | omega | (simp <;> omega))) | (with_reducible refine below_drewN ?_ _) | (with_reducible refine Below.drew ?_) | ((with_reducible refine Below.step (by assumption) ?_ ?_); rotate_left; (first | omega | (simp <;> omega)))))⟩
set_option maxHeartbeats 2000000 in
theorem I_missIndex {a x y p n g d pc : Nat} {H : Int} {B P : Option Addr} {v : Value} {t : List Bool} (w : World) (hn : n ≤ 144) (h144 : t.length ≤ 144) (hp : 1 ≤ p)
    (hat : ∀ j, j < n → bAt a x y p j < t.length ∧ (y + j / p) * a ≤ 144) (hf : FilmAt w g a H v (.slice B t.length d)) (h2 : RS w 1 B t.length d (bools t)) (h3 : RS w 2 P n pc (pxs x y p n)) :
    Calls Try.prog 32 #[.slice P n pc, .func (.func 23) #[] #[.pointer (some ⟨g, 0, none⟩)]] w fun e w' => ∃ z : Int, e = .returned (.int .i64 z) ∧ decide (0 ≤ z) = anyOpen a x y p t n ∧ Below w.heap.size w w' := by
  have hg := hf.lt
  have HF := Lib.hid hf
  have H2 := Lib.hid h2
  have H3 := Lib.hid h3
  have HAT := Lib.hid hat
  clear hf h2 h3 hat
  go_enter Try.func32, Try.ntmps32
  go_wp2_with fail
  go_loopw [5, 8] (fun _ i wr => ∃ j : Nat, j ≤ n ∧ i = .int .i64 j ∧ anyOpen a x y p t j = false ∧ Below w.heap.size w wr) (fun _ i _ => n - (intOf i).toNat)
  case atStart => exact ⟨0, Nat.zero_le _, rfl, rfl, Below.refl _ _⟩
  case round =>
    obtain ⟨j, hj, rfl, hno, hb⟩ := hrel
    have HNO := Lib.hid hno
    have HB := Lib.hid hb
    have hsz := hb.size
    clear hno hb
    have hf1 := Lib.hid (HF.out.step HB.out hg)
    have h21 := Lib.hid (RS.step HB.out H2.out)
    have y1' : IntKind.i64.wrap ((j : Int) + 1) = (j : Int) + 1 := IntWalk.i64_in _ (by omega)
    by_cases hjn : j < n
    · obtain ⟨bp, op, rfl, hbp, hcp⟩ := (RS.step HB.out H3.out).open_.2.2 (by omega)
      obtain ⟨xp1, xp2⟩ := pxs_at x y p n hjn
      obtain ⟨hlt, hma⟩ := HAT.out j hjn
      have hxs : openAt a x y p t j = !t[bAt a x y p j] := openAt_at hlt
      have HNX : Hid (anyOpen a x y p t (j + 1) = !t[bAt a x y p j]) := by show _ = _; rw [anyOpen_succ, HNO.out, hxs]; rfl
      have HYES : Hid (openAt a x y p t j = true → anyOpen a x y p t n = true) := fun h => anyOpen_true hjn h
      have c1 : wr.cell? ⟨bp, op + j * 2, none⟩ = some (.int .i64 ((x + j % p : Nat) : Int)) := by rw [hcp (j * 2) (by omega), xp1]
      have c2 : wr.cell? ⟨bp, op + j * 2 + 1, none⟩ = some (.int .i64 ((y + j / p : Nat) : Int)) := by rw [show op + j * 2 + 1 = op + (j * 2 + 1) by omega, hcp (j * 2 + 1) (by omega), xp2]
      have HX : Hid (Calls Try.prog 23 #[.agg #[.int .i64 ((x + j % p : Nat) : Int), .int .i64 ((y + j / p : Nat) : Int)], .pointer (some ⟨g, 0, none⟩)] wr fun e w' => e = .returned (.bool (!t[bAt a x y p j])) ∧ Below wr.heap.size wr w') := I_Missing1 wr (by rw [bAt]) hlt h144 hma hf1.out h21.out
      rw [hxs] at HYES
      generalize ((x + j % p : Nat) : Int) = XX at *
      generalize ((y + j / p : Nat) : Int) = YY at *
      have i0 : (0 : Int) ≤ j := by omega
      have i1 : (j : Int) < n := by omega
      have HREL2 : Hid (j + 1 ≤ n) := hjn
      clear hcp xp1 xp2 hxs hma
      generalize t[bAt a x y p j] = v2 at *
      go_wp2_with fail
      refine HX.out.mono ?_
      rintro e w3 ⟨rfl, hb3⟩
      have HB3 := Lib.hid (Below.trans HB.out (hb3.mono hsz))
      clear hb3
      cases v2
      case true =>
        go_wp2_with fail
        go_roundw
        case rel => exact ⟨j + 1, HREL2.out, by go_num, HNX.out, HB3.out⟩
        case measure => simp [intOf]; omega
      case false =>
        go_wp2_with fail
        go_ret
        exact ⟨_, rfl, by rw [HYES.out rfl]; simp, HB3.out⟩
    · obtain rfl : j = n := by omega
      go_wp2_with fail
      go_ret
      exact ⟨_, rfl, by rw [HNO.out]; simp, HB.out⟩
set_option maxHeartbeats 2000000 in
theorem I_missAny {a x y p n g d pc : Nat} {H : Int} {B P : Option Addr} {v : Value} {t : List Bool} (w : World) (hn : n ≤ 144) (h144 : t.length ≤ 144) (hp : 1 ≤ p)
    (hat : ∀ j, j < n → bAt a x y p j < t.length ∧ (y + j / p) * a ≤ 144) (hf : FilmAt w g a H v (.slice B t.length d)) (h2 : RS w 1 B t.length d (bools t)) (h3 : RS w 2 P n pc (pxs x y p n)) :
    Calls Try.prog 21 #[.slice P n pc, .func (.func 23) #[] #[.pointer (some ⟨g, 0, none⟩)]] w fun e w' => e = .returned (.bool (anyOpen a x y p t n)) ∧ Below w.heap.size w w' := by
  have HX := Lib.hid (I_missIndex (pc := pc) (P := P) w hn h144 hp hat hf h2 h3)
  clear hf h2 h3 hat
  go_enter Try.func21, Try.ntmps21
  go_wp2_with fail
  refine HX.out.mono ?_
  rintro e w3 ⟨z, rfl, hz, hb3⟩
  go_wp2
  go_ret
  exact ⟨rfl, hb3⟩
set_option maxHeartbeats 8000000 in
theorem I_Missing {W H : Int} {A B C : Option Addr} {c d f : Nat} {s : List Int} {t : List Bool} {l : List EBucket} (w : World) (hm : l.length ≤ 1048576) (h : RS w 1 A s.length c (ints s)) (h2 : RS w 1 B t.length d (bools t)) (h3 : RS w 4 C l.length f (rBucket l)) :
    Calls Try.prog 9 #[vFilm W H (.slice A s.length c) (.slice B t.length d), .slice C l.length f] w (MadeRow 3 1 (missF W H s t l).length (ints (missF W H s t l)) w) := by
  have n1 := h.len
  have n2 := h2.len
  have n3 := h3.len
  unfold maxLen at n1 n2 n3
  have H1 := Lib.hid h
  have H2 := Lib.hid h2
  have H3 := Lib.hid h3
  clear h h2 h3
  cases hv : validFilm W H s t
  case false =>
    have HV : Hid (MadeRow 3 1 (missF W H s t l).length (ints (missF W H s t l)) w = MadeRow 3 1 0 [] w) := by show _ = _; rw [show missF W H s t l = [] by unfold missF; rw [hv]; rfl]; rfl
    go_enter Try.func9, Try.ntmps9
    go_wp2_with fail
    refine (I_IsValidFilm _ (RS.step (by repeat (first | (with_reducible exact Below.refl _ _) | (with_reducible assumption) | ((with_reducible refine Below.alloc ?_ ?_ _); rotate_left; (first | omega | (simp <;> omega))) | ((with_reducible refine Below.setCell ?_ ?_ _); rotate_left; (first | omega | (simp <;> omega))) | (with_reducible refine below_drewN ?_ _) | (with_reducible refine Below.drew ?_) | ((with_reducible refine Below.step (by assumption) ?_ ?_); rotate_left; (first | omega | (simp <;> omega))))) H1.out) (RS.step (by repeat (first | (with_reducible exact Below.refl _ _) | (with_reducible assumption) | ((with_reducible refine Below.alloc ?_ ?_ _); rotate_left; (first | omega | (simp <;> omega))) | ((with_reducible refine Below.setCell ?_ ?_ _); rotate_left; (first | omega | (simp <;> omega))) | (with_reducible refine below_drewN ?_ _) | (with_reducible refine Below.drew ?_) | ((with_reducible refine Below.step (by assumption) ?_ ?_); rotate_left; (first | omega | (simp <;> omega))))) H2.out)).mono ?_
    rintro e w' ⟨rfl, hb⟩; have hz := hb.size; (try simp at hz); have c0 := fun o => hb.cell (p := ⟨w.heap.size, o, none⟩) (by first | omega | (simp <;> omega)); have f0 := fun o => hb.frozen (p := ⟨w.heap.size, o, none⟩) (by first | omega | (simp <;> omega)); have z0 : w.heap.size < w'.heap.size := (by omega)
    go_wp2
    rw [HV.out]
    go_ret
    exact MadeRow.none_ _ _ _ (by repeat (first | (with_reducible exact Below.refl _ _) | (with_reducible assumption) | ((with_reducible refine Below.alloc ?_ ?_ _); rotate_left; (first | omega | (simp <;> omega))) | ((with_reducible refine Below.setCell ?_ ?_ _); rotate_left; (first | omega | (simp <;> omega))) | (with_reducible refine below_drewN ?_ _) | (with_reducible refine Below.drew ?_) | ((with_reducible refine Below.step (by assumption) ?_ ?_); rotate_left; (first | omega | (simp <;> omega)))))
  case true =>
    obtain ⟨⟨hW1, hW2⟩, ⟨hH1, hH2⟩, h144⟩ := validFilm_small hv
    have HV : Hid (MadeRow 3 1 (missF W H s t l).length (ints (missF W H s t l)) w = MadeRow 3 1 (missTo (missOn W H t l) l.length).length (ints (missTo (missOn W H t l) l.length)) w) := by show _ = _; unfold missF; rw [hv]; rfl
    have HVF := Lib.hid hv
    go_enter Try.func9, Try.ntmps9
    go_wp2_with fail
    refine (I_IsValidFilm _ (RS.step (by repeat (first | (with_reducible exact Below.refl _ _) | (with_reducible assumption) | ((with_reducible refine Below.alloc ?_ ?_ _); rotate_left; (first | omega | (simp <;> omega))) | ((with_reducible refine Below.setCell ?_ ?_ _); rotate_left; (first | omega | (simp <;> omega))) | (with_reducible refine below_drewN ?_ _) | (with_reducible refine Below.drew ?_) | ((with_reducible refine Below.step (by assumption) ?_ ?_); rotate_left; (first | omega | (simp <;> omega))))) H1.out) (RS.step (by repeat (first | (with_reducible exact Below.refl _ _) | (with_reducible assumption) | ((with_reducible refine Below.alloc ?_ ?_ _); rotate_left; (first | omega | (simp <;> omega))) | ((with_reducible refine Below.setCell ?_ ?_ _); rotate_left; (first | omega | (simp <;> omega))) | (with_reducible refine below_drewN ?_ _) | (with_reducible refine Below.drew ?_) | ((with_reducible refine Below.step (by assumption) ?_ ?_); rotate_left; (first | omega | (simp <;> omega))))) H2.out)).mono ?_
    rintro e w1 ⟨rfl, hb1⟩
    have hz1 := hb1.size
    (try simp at hz1)
    obtain ⟨cc1, ff1⟩ := bcell (hb1.mono (show w.heap.size + 1 ≤ _ by first | omega | (simp <;> omega)))
    have z10 : w.heap.size < w1.heap.size := by omega
    have hB1 : Below w.heap.size w w1 := (by repeat (first | (with_reducible exact Below.refl _ _) | (with_reducible assumption) | ((with_reducible refine Below.alloc ?_ ?_ _); rotate_left; (first | omega | (simp <;> omega))) | ((with_reducible refine Below.setCell ?_ ?_ _); rotate_left; (first | omega | (simp <;> omega))) | (with_reducible refine below_drewN ?_ _) | (with_reducible refine Below.drew ?_) | ((with_reducible refine Below.step (by assumption) ?_ ?_); rotate_left; (first | omega | (simp <;> omega)))))
    have HB1 := Lib.hid hB1
    have HG0 : Hid (Grow (w1.alloc (.cells #[] 3)) (w.heap.size + 1) 3 1 (some ⟨w1.heap.size, 0, none⟩) 0 0 []) := Grow.lit_at (cs := #[]) (n := 0) rfl rfl (by omega) (Nat.zero_le _)
    have k20 : w1.cell? ⟨w.heap.size, 0, none⟩ = some (.int .i64 W) := by go_simp
    have k21 : w1.cell? ⟨w.heap.size, 1, none⟩ = some (.int .i64 H) := by go_simp
    have k22 : w1.cell? ⟨w.heap.size, 2, none⟩ = some (.slice A s.length c) := by go_simp
    have k23 : w1.cell? ⟨w.heap.size, 3, none⟩ = some (.slice B t.length d) := by go_simp
    have K20 : Hid (FilmAt w1 w.heap.size W H (.slice A s.length c) (.slice B t.length d)) := And.intro k20 (And.intro k21 (And.intro k22 k23))
    clear hb1 hB1 k20 k21 k22 k23 cc1 ff1
    go_wp2_with fail
    clear hv
    go_loopw [5, 6, 7, 14] (fun o _ _ i wr => ∃ (k : Nat) (Q : Option Addr) (n d : Nat), k ≤ l.length ∧ i = .int .i64 k ∧ o = .slice Q n d ∧ Grow wr (w.heap.size + 1) 3 1 Q n d (ints (missTo (missOn W H t l) k)) ∧ Below (w.heap.size + 1) w1 wr) (fun _ _ _ i _ => l.length - (intOf i).toNat)
    case atStart => exact ⟨0, _, _, _, Nat.zero_le _, rfl, rfl, HG0.out, (by repeat (first | (with_reducible exact Below.refl _ _) | (with_reducible assumption) | ((with_reducible refine Below.alloc ?_ ?_ _); rotate_left; (first | omega | (simp <;> omega))) | ((with_reducible refine Below.setCell ?_ ?_ _); rotate_left; (first | omega | (simp <;> omega))) | (with_reducible refine below_drewN ?_ _) | (with_reducible refine Below.drew ?_) | ((with_reducible refine Below.step (by assumption) ?_ ?_); rotate_left; (first | omega | (simp <;> omega)))))⟩
    case round =>
      obtain ⟨k, Q, n, d', hk, rfl, rfl, hg, hb⟩ := hrel
      have hsz := hb.size
      have hlm := missTo_len (missOn W H t l) k
      have hnl : n = (missTo (missOn W H t l) k).length := by have := hg.len; simp at this; omega
      have hn : n ≤ k := by omega
      have HNL := Lib.hid hnl
      have hbw : Below w.heap.size w wr := Below.trans HB1.out (hb.mono (by omega))
      have HF := Lib.hid (FilmAt.step hb (by omega) K20.out)
      obtain ⟨e20, e21, _, _⟩ := HF.out
      have HGr := Lib.hid hg
      have HB := Lib.hid hb
      have HBW := Lib.hid hbw
      have HR2 := Lib.hid (RS.step hbw H2.out)
      have HR3 := Lib.hid (RS.step hbw H3.out)
      have zr0 : w.heap.size < wr.heap.size := by omega
      clear hg hb hbw hlm hnl
      by_cases hlt : k < l.length
      · obtain ⟨b, off, rfl, hbh, hcell⟩ := HR3.out.open_.2.2 (by omega)
        obtain ⟨q0, q1, q2, q3⟩ := rBucket_at (l := l) hlt
        have d0 : wr.cell? ⟨b, off + k * 4, none⟩ = some (.int .i64 l[k].1) := by rw [hcell _ (by omega), q0]
        have d1 : wr.cell? ⟨b, off + k * 4 + 1, none⟩ = some (.int .i64 l[k].2.1) := by rw [show off + k * 4 + 1 = off + (k * 4 + 1) by omega, hcell _ (by omega), q1]
        have d2 : wr.cell? ⟨b, off + k * 4 + 2, none⟩ = some (.int .i64 l[k].2.2.1) := by rw [show off + k * 4 + 2 = off + (k * 4 + 2) by omega, hcell _ (by omega), q2]
        have d3 : wr.cell? ⟨b, off + k * 4 + 3, none⟩ = some (.int .i64 l[k].2.2.2) := by rw [show off + k * 4 + 3 = off + (k * 4 + 3) by omega, hcell _ (by omega), q3]
        have i1 : (0 : Int) ≤ k := by omega
        have i2 : (k : Int) < l.length := by omega
        have y0' : IntKind.i64.wrap ((k : Int) + 1) = (k : Int) + 1 := IntWalk.i64_in _ (by omega)
        have HON := Lib.hid (missOn_at (W := W) (H := H) (t := t) hlt)
        have HREL : Hid (k + 1 ≤ l.length) := by show _ ≤ _; omega
        clear hcell q0 q1 q2 q3
        generalize l[k].1 = x at *
        generalize l[k].2.1 = y at *
        generalize l[k].2.2.1 = p at *
        generalize l[k].2.2.2 = q at *
        cases hi : insideF x y p q W H
        case false =>
          have HOFF : Hid (missTo (missOn W H t l) (k + 1) = missTo (missOn W H t l) k) := by show _ = _; exact missTo_off (by rw [HON.out]; unfold bOpen; rw [hi]; rfl)
          go_wp2_with fail
          refine (I_inside _ ⟨hW1, hW2⟩ ⟨hH1, hH2⟩).mono ?_
          rintro e w3 ⟨rfl, hb3⟩
          have hB3w : Below wr.heap.size wr w3 := Below.trans (Below.alloc (Below.refl _ _) (Nat.le_refl _) _) (hb3.mono (by simp))
          have HB3 := Lib.hid (Below.trans HB.out (hB3w.mono (show w.heap.size + 1 ≤ _ by omega)))
          have HG3 := Lib.hid (Grow.step hB3w HGr.out)
          clear hB3w hb3
          rw [hi]
          go_wp2_with fail
          go_roundw
          case rel => exact ⟨k + 1, _, _, _, HREL.out, by go_num, rfl, by rw [HOFF.out]; exact HG3.out, HB3.out⟩
          case measure => simp [intOf]; omega
        case true =>
          obtain ⟨a, bb, xn, yn, pn, qn, rfl, rfl, rfl, rfl, rfl, rfl, ⟨a1, a2⟩, ⟨b1, b2⟩, hxp, hyq, hp1, hq1, hsl, htl⟩ := film_nat HVF.out hi
          have hpq : pn * qn ≤ 12 * 12 := Nat.mul_le_mul (by omega) (by omega)
          have HAT : Hid (∀ j, j < qn * pn → bAt a xn yn pn j < t.length ∧ (yn + j / pn) * a ≤ 144) := fun j hj => by
            rw [Nat.mul_comm] at hj
            obtain ⟨r1, r2, _⟩ := bAt_lt (a := a) (b := bb) (x := xn) (y := yn) (k := j) hp1 hxp hyq hj
            rw [htl]
            refine ⟨r1, ?_⟩
            have : (yn + j / pn) * a ≤ 12 * 12 := Nat.mul_le_mul (by omega) (by omega)
            omega
          have ht144 : t.length ≤ 144 := by omega
          have HOPEN : Hid (missOn a bb t l k = anyOpen a xn yn pn t (qn * pn)) := by show _ = _; rw [HON.out]; unfold bOpen; rw [hi, Bool.true_and]; simp only [Int.toNat_natCast]; rw [Nat.mul_comm]
          have HHI := Lib.hid hi
          have HPX : Hid (∀ wx, Calls Try.prog 22 #[vBucket xn yn pn qn] wx (MadeRow 54 2 (qn * pn) (pxs xn yn pn (qn * pn)) wx)) := fun wx => I_pixels wx (by omega) (by omega) ⟨hp1, by omega⟩ (by omega)
          rw [Nat.mul_comm] at hpq
          obtain ⟨N, hN⟩ : ∃ N, qn * pn = N := ⟨_, rfl⟩
          rw [hN] at HAT HOPEN HPX hpq
          clear hN hsl htl HON
          go_wp2_with fail
          refine (I_inside _ ⟨hW1, hW2⟩ ⟨hH1, hH2⟩).mono ?_
          rintro e w3 ⟨rfl, hb3⟩
          have hz3 := hb3.size
          (try simp at hz3)
          have m0 : w3.cell? ⟨wr.heap.size, 0, none⟩ = some (.int .i64 xn) := by obtain ⟨cb, _⟩ := bcell hb3; rw [cb _ _ (by simp)]; simp
          have m1 : w3.cell? ⟨wr.heap.size, 1, none⟩ = some (.int .i64 yn) := by obtain ⟨cb, _⟩ := bcell hb3; rw [cb _ _ (by simp)]; simp
          have m2 : w3.cell? ⟨wr.heap.size, 2, none⟩ = some (.int .i64 pn) := by obtain ⟨cb, _⟩ := bcell hb3; rw [cb _ _ (by simp)]; simp
          have m3 : w3.cell? ⟨wr.heap.size, 3, none⟩ = some (.int .i64 qn) := by obtain ⟨cb, _⟩ := bcell hb3; rw [cb _ _ (by simp)]; simp
          have hB3w : Below wr.heap.size wr w3 := Below.trans (Below.alloc (Below.refl _ _) (Nat.le_refl _) _) (hb3.mono (by simp))
          have HB3w := Lib.hid hB3w
          clear hb3 hB3w
          rw [hi]
          clear hi
          go_wp2_with fail
          refine (HPX.out _).mono ?_
          rintro e w4 ⟨PA, pc, rfl, pxo, pge, hb4⟩
          have hz4 := hb4.size
          have hB4w : Below wr.heap.size wr w4 := Below.trans HB3w.out (hb4.mono (by omega))
          have HB4w := Lib.hid hB4w
          have HPR := Lib.hid pxo.rs
          clear pxo pge hb4
          go_wp2_with fail
          refine (I_missAny _ (by omega) ht144 hp1 HAT.out (FilmAt.step HB4w.out zr0 HF.out) (RS.step HB4w.out HR2.out) HPR.out).mono ?_
          rintro e w5 ⟨rfl, hb5⟩
          have hz5 := hb5.size
          have hB5w : Below wr.heap.size wr w5 := Below.trans HB4w.out (hb5.mono (by omega))
          have HB5 := Lib.hid (Below.trans HB.out (hB5w.mono (show w.heap.size + 1 ≤ _ by omega)))
          have HG5 := Lib.hid (Grow.step hB5w HGr.out)
          clear hB5w hb5
          cases ho : anyOpen a xn yn pn t N
          case true =>
            have HON2 : Hid (missTo (missOn a bb t l) (k + 1) = missTo (missOn a bb t l) k ++ [(k : Int)]) := by show _ = _; exact missTo_on (by rw [HOPEN.out, ho])
            go_wp2_with (at_builtin; refine wpList_app (by rfl) _ _ 29 (by rfl) (w.heap.size + 1) 3 (.int .i64 0) 1 8 Try.underlying29 T.infoInt rfl (by decide) (xs := ints (missTo (missOn a bb t l) k)) (by rfl) ?_ (ys := ints [(k : Int)]) (by rfl) ?_ (ints_one _) ?_ ?_ ?_ ?_; (exact (by repeat (first | (with_reducible exact HG5.out) | (with_reducible refine Grow.alloc ?_ _) | (with_reducible refine Grow.drewN ?_ _) | (with_reducible refine Grow.drew ?_) | ((with_reducible refine Grow.far ?_ ?_ _); rotate_left; (first | omega | (simp <;> omega))) | (with_reducible refine Grow.step (by assumption) ?_)))); (exact (Grow.rs (base := 0) (n := 1) (c := 1) (by repeat (first | (with_reducible refine Grow.drewN ?_ _) | (with_reducible refine Grow.drew ?_) | (refine Grow.lit_at (by simp) (by rfl) (Nat.zero_le _) (by unfold maxLen; omega)))))); (unfold maxLen; omega); (omega); (first | omega | (simp <;> omega)); rintro A' c' w2 gA; have HGA := Lib.hid gA.1; have HBA := Lib.hid (Below.trans (Below.alloc HB5.out (by omega) _) gA.2.1); clear gA)
            go_roundw
            case rel => exact ⟨k + 1, _, _, _, HREL.out, by go_num, rfl, by rw [HON2.out, ints_app]; exact HGA.out, HBA.out⟩
            case measure => simp [intOf]; omega
          case false =>
            have HOFF : Hid (missTo (missOn a bb t l) (k + 1) = missTo (missOn a bb t l) k) := by show _ = _; exact missTo_off (by rw [HOPEN.out, ho])
            go_wp2_with fail
            go_roundw
            case rel => exact ⟨k + 1, _, _, _, HREL.out, by go_num, rfl, by rw [HOFF.out]; exact HG5.out, HB5.out⟩
            case measure => simp [intOf]; omega
      · obtain rfl : k = l.length := by omega
        have hnn := HNL.out
        subst hnn
        go_wp2_with fail
        rw [HV.out]
        go_ret
        exact Grow.made HGr.out (by omega) HBW.out
end Go.Proofs.Ythpanpedoeghoaa
