/- MADE BY PROGRAM (genmrgs.py). MergeDeep of the reference. -/
import Derived.Test.YtaeajeclbcodeaaMrgP
import Derived.Test.YtaeajeclbcodeaaDeepOfS
import Derived.Test.YtaeajeclbcodeaaDeepT
import Derived.Deep.QuietTactic
import Derived.BigQuiet
import Derived.Deep.DeepCutAuto
namespace Go.Proofs.Ytaeajeclbcodeaa
open Go.RowKit
set_option linter.unusedVariables false
set_option maxRecDepth 100000
theorem dep_len (l : List EDeepStep) : (dep l).length = l.length := by unfold dep; simp
theorem dep_drop {l : List EDeepStep} {i : Nat} (h : i < l.length) : (dep l).drop i = l[i].1 :: (dep l).drop (i + 1) := by
  rw [List.drop_eq_getElem_cons (by rw [dep_len]; exact h)]
  unfold dep; simp
theorem dep_end {l : List EDeepStep} {i : Nat} (h : l.length ≤ i) : (dep l).drop i = [] := List.drop_eq_nil_of_le (by rw [dep_len]; exact h)
/-- What the loop keeps: the depths that are done, and those to come. -/
def MTo (a b : List EDeepStep) (i j : Nat) (dn : List Int) : Prop := dn ++ mergeD ((dep a).drop i) ((dep b).drop j) = mergeD (dep a) (dep b)
theorem MTo.len {a b : List EDeepStep} {i j : Nat} {dn : List Int} (h : MTo a b i j dn) : dn.length ≤ a.length + b.length := by
  have h1 := congrArg List.length h
  rw [List.length_append] at h1
  have h2 := mergeD_len (dep a) (dep b)
  rw [dep_len, dep_len] at h2
  omega
theorem MTo.a_only {a b : List EDeepStep} {i j : Nat} {dn : List Int} (h : MTo a b i j dn) (hi : i < a.length) (hj : b.length ≤ j) : MTo a b (i + 1) j (dn ++ [a[i].1]) := by
  unfold MTo at *
  rw [dep_drop hi, dep_end hj, mergeD_nil] at h
  rw [dep_end hj, mergeD_nil, List.append_assoc]; exact h
theorem MTo.b_only {a b : List EDeepStep} {i j : Nat} {dn : List Int} (h : MTo a b i j dn) (hi : a.length ≤ i) (hj : j < b.length) : MTo a b i (j + 1) (dn ++ [b[j].1]) := by
  unfold MTo at *
  rw [dep_end hi, dep_drop hj, show ∀ l, mergeD [] l = l from fun l => by simp [mergeD]] at h
  rw [dep_end hi, show ∀ l, mergeD [] l = l from fun l => by simp [mergeD], List.append_assoc]; exact h
theorem MTo.lt {a b : List EDeepStep} {i j : Nat} {dn : List Int} (h : MTo a b i j dn) (hi : i < a.length) (hj : j < b.length) (hc : a[i].1 < b[j].1) : MTo a b (i + 1) j (dn ++ [a[i].1]) := by
  unfold MTo at *
  rw [dep_drop hi, dep_drop hj, mergeD_lt hc, ← dep_drop hj] at h
  rw [List.append_assoc]; exact h
theorem MTo.gt {a b : List EDeepStep} {i j : Nat} {dn : List Int} (h : MTo a b i j dn) (hi : i < a.length) (hj : j < b.length) (hc : b[j].1 < a[i].1) : MTo a b i (j + 1) (dn ++ [b[j].1]) := by
  unfold MTo at *
  rw [dep_drop hi, dep_drop hj, mergeD_gt hc, ← dep_drop hi] at h
  rw [List.append_assoc]; exact h
theorem MTo.eq {a b : List EDeepStep} {i j : Nat} {dn : List Int} (h : MTo a b i j dn) (hi : i < a.length) (hj : j < b.length) (hc : a[i].1 = b[j].1) : MTo a b (i + 1) (j + 1) (dn ++ [a[i].1]) := by
  unfold MTo at *
  rw [dep_drop hi, dep_drop hj, ← hc, mergeD_eq] at h
  rw [List.append_assoc]; exact h
theorem MTo.done {a b : List EDeepStep} {i j : Nat} {dn : List Int} (h : MTo a b i j dn) (hi : a.length ≤ i) (hj : b.length ≤ j) : dn = mergeD (dep a) (dep b) := by
  unfold MTo at h
  rw [dep_end hi, dep_end hj, mergeD_nil, List.append_nil] at h
  exact h
theorem mergeF_no {a b : List EDeepStep} (h : (validDeep a && validDeep b) = false) : mergeF a b = [] := by unfold mergeF; rw [h]; rfl
theorem mergeF_yes {a b : List EDeepStep} (h1 : validDeep a = true) (h2 : validDeep b = true) : mergeF a b = (mergeS a b (mergeD (dep a) (dep b))).take 64 := by unfold mergeF; rw [h1, h2]; rfl
set_option maxHeartbeats 16000000 in
theorem S_MergeDeep {A B : Option Addr} {c d : Nat} {a b : List EDeepStep} (w : World) (ha : RS w 2 A a.length c (rDeepStep a)) (hb : RS w 2 B b.length d (rDeepStep b)) :
    Calls Try.prog 12 #[.slice A a.length c, .slice B b.length d] w (MadeRow 61 2 (mergeF a b).length (rDeepStep (mergeF a b)) w) := by
  have hla := ha.len
  have hlb := hb.len
  unfold maxLen at hla hlb
  have HA0 := Lib.hid ha
  have HB0 := Lib.hid hb
  clear ha hb
  have HG0 : Hid (Grow (w.alloc (.cells #[] 61)) w.heap.size 61 2 (some ⟨w.heap.size, 0, none⟩) 0 0 []) := Lib.hid (Grow.lit w #[] 0 rfl (Nat.le_refl _) (Nat.zero_le _))
  cases hva : validDeep a with
  | false =>
    have HF : Hid (mergeF a b = []) := Lib.hid (mergeF_no (by rw [hva]; rfl))
    go_enter Try.func12, Try.ntmps12
    go_wp2_with fail
    refine (S_IsValidDeep _ (RS.step (by repeat (first | (with_reducible exact Below.refl _ _) | (with_reducible assumption) | ((with_reducible refine Below.alloc ?_ ?_ _); rotate_left; (first | omega | (simp <;> omega))) | ((with_reducible refine Below.setCell ?_ ?_ _); rotate_left; (first | omega | (simp <;> omega))) | (with_reducible refine below_drewN ?_ _) | (with_reducible refine Below.drew ?_) | ((with_reducible refine Below.step (by assumption) ?_ ?_); rotate_left; (first | omega | (simp <;> omega))))) HA0.out)).mono ?_
    rintro e w1 ⟨rfl, hb⟩
    have hz := hb.size
    rw [hva]
    go_wp2_with fail
    go_ret
    rw [HF.out]
    exact MadeRow.none_ _ _ _ (by repeat (first | (with_reducible exact Below.refl _ _) | (with_reducible assumption) | ((with_reducible refine Below.alloc ?_ ?_ _); rotate_left; (first | omega | (simp <;> omega))) | ((with_reducible refine Below.setCell ?_ ?_ _); rotate_left; (first | omega | (simp <;> omega))) | (with_reducible refine below_drewN ?_ _) | (with_reducible refine Below.drew ?_) | ((with_reducible refine Below.step (by assumption) ?_ ?_); rotate_left; (first | omega | (simp <;> omega)))))
  | true =>
    cases hvb : validDeep b with
    | false =>
      have HF : Hid (mergeF a b = []) := Lib.hid (mergeF_no (by rw [hva, hvb]; rfl))
      go_enter Try.func12, Try.ntmps12
      go_wp2_with fail
      refine (S_IsValidDeep _ (RS.step (by repeat (first | (with_reducible exact Below.refl _ _) | (with_reducible assumption) | ((with_reducible refine Below.alloc ?_ ?_ _); rotate_left; (first | omega | (simp <;> omega))) | ((with_reducible refine Below.setCell ?_ ?_ _); rotate_left; (first | omega | (simp <;> omega))) | (with_reducible refine below_drewN ?_ _) | (with_reducible refine Below.drew ?_) | ((with_reducible refine Below.step (by assumption) ?_ ?_); rotate_left; (first | omega | (simp <;> omega))))) HA0.out)).mono ?_
      rintro e w1 ⟨rfl, hb⟩
      have hz := hb.size
      (try simp at hz)
      have b1 : Below w.heap.size w w1 := (by repeat (first | (with_reducible exact Below.refl _ _) | (with_reducible assumption) | ((with_reducible refine Below.alloc ?_ ?_ _); rotate_left; (first | omega | (simp <;> omega))) | ((with_reducible refine Below.setCell ?_ ?_ _); rotate_left; (first | omega | (simp <;> omega))) | (with_reducible refine below_drewN ?_ _) | (with_reducible refine Below.drew ?_) | ((with_reducible refine Below.step (by assumption) ?_ ?_); rotate_left; (first | omega | (simp <;> omega)))))
      clear hb
      rw [hva]
      go_wp2_with fail
      refine (S_IsValidDeep _ (RS.step (by repeat (first | (with_reducible exact Below.refl _ _) | (with_reducible assumption) | ((with_reducible refine Below.alloc ?_ ?_ _); rotate_left; (first | omega | (simp <;> omega))) | ((with_reducible refine Below.setCell ?_ ?_ _); rotate_left; (first | omega | (simp <;> omega))) | (with_reducible refine below_drewN ?_ _) | (with_reducible refine Below.drew ?_) | ((with_reducible refine Below.step (by assumption) ?_ ?_); rotate_left; (first | omega | (simp <;> omega))))) HB0.out)).mono ?_
      rintro e w2 ⟨rfl, hb⟩
      have hz2 := hb.size
      rw [hvb]
      go_wp2_with fail
      go_ret
      rw [HF.out]
      exact MadeRow.none_ _ _ _ (by repeat (first | (with_reducible exact Below.refl _ _) | (with_reducible assumption) | ((with_reducible refine Below.alloc ?_ ?_ _); rotate_left; (first | omega | (simp <;> omega))) | ((with_reducible refine Below.setCell ?_ ?_ _); rotate_left; (first | omega | (simp <;> omega))) | (with_reducible refine below_drewN ?_ _) | (with_reducible refine Below.drew ?_) | ((with_reducible refine Below.step (by assumption) ?_ ?_); rotate_left; (first | omega | (simp <;> omega)))))
    | true =>
      have h64a := validDeep_len hva
      have h64b := validDeep_len hvb
      have HVA := Lib.hid hva
      have HVB := Lib.hid hvb
      go_enter Try.func12, Try.ntmps12
      go_wp2_with fail
      refine (S_IsValidDeep _ (RS.step (by repeat (first | (with_reducible exact Below.refl _ _) | (with_reducible assumption) | ((with_reducible refine Below.alloc ?_ ?_ _); rotate_left; (first | omega | (simp <;> omega))) | ((with_reducible refine Below.setCell ?_ ?_ _); rotate_left; (first | omega | (simp <;> omega))) | (with_reducible refine below_drewN ?_ _) | (with_reducible refine Below.drew ?_) | ((with_reducible refine Below.step (by assumption) ?_ ?_); rotate_left; (first | omega | (simp <;> omega))))) HA0.out)).mono ?_
      rintro e w1 ⟨rfl, hb⟩
      have hz := hb.size
      (try simp at hz)
      have b1 : Below w.heap.size w w1 := (by repeat (first | (with_reducible exact Below.refl _ _) | (with_reducible assumption) | ((with_reducible refine Below.alloc ?_ ?_ _); rotate_left; (first | omega | (simp <;> omega))) | ((with_reducible refine Below.setCell ?_ ?_ _); rotate_left; (first | omega | (simp <;> omega))) | (with_reducible refine below_drewN ?_ _) | (with_reducible refine Below.drew ?_) | ((with_reducible refine Below.step (by assumption) ?_ ?_); rotate_left; (first | omega | (simp <;> omega)))))
      have HG1 : Hid (Grow w1 w.heap.size 61 2 (some ⟨w.heap.size, 0, none⟩) 0 0 []) := Lib.hid (Grow.step hb HG0.out)
      clear hb HG0
      rw [hva]
      go_wp2_with fail
      refine (S_IsValidDeep _ (RS.step (by repeat (first | (with_reducible exact Below.refl _ _) | (with_reducible assumption) | ((with_reducible refine Below.alloc ?_ ?_ _); rotate_left; (first | omega | (simp <;> omega))) | ((with_reducible refine Below.setCell ?_ ?_ _); rotate_left; (first | omega | (simp <;> omega))) | (with_reducible refine below_drewN ?_ _) | (with_reducible refine Below.drew ?_) | ((with_reducible refine Below.step (by assumption) ?_ ?_); rotate_left; (first | omega | (simp <;> omega))))) HB0.out)).mono ?_
      rintro e w2 ⟨rfl, hb⟩
      have hz2 := hb.size
      (try simp at hz2)
      have b2 : Below w.heap.size w w2 := (by repeat (first | (with_reducible exact Below.refl _ _) | (with_reducible assumption) | ((with_reducible refine Below.alloc ?_ ?_ _); rotate_left; (first | omega | (simp <;> omega))) | ((with_reducible refine Below.setCell ?_ ?_ _); rotate_left; (first | omega | (simp <;> omega))) | (with_reducible refine below_drewN ?_ _) | (with_reducible refine Below.drew ?_) | ((with_reducible refine Below.step (by assumption) ?_ ?_); rotate_left; (first | omega | (simp <;> omega)))))
      have HG2 : Hid (Grow w2 w.heap.size 61 2 (some ⟨w.heap.size, 0, none⟩) 0 0 []) := Lib.hid (Grow.step hb HG1.out)
      clear hb HG1
      rw [hvb]
      clear hva hvb
      go_wp2_with fail
      go_loopw [5, 6, 7, 8, 9, 10] (fun o_ l_ i_ j_ _ _ wr => ∃ (i j : Nat) (R : Option Addr) (q : Nat) (dn : List Int), i ≤ a.length ∧ j ≤ b.length ∧ i_ = .int .i64 i ∧ j_ = .int .i64 j ∧ o_ = .slice R (mergeS a b dn).length q ∧ l_ = .int .i64 (lastWt (mergeS a b dn)) ∧ MTo a b i j dn ∧ Grow wr w.heap.size 61 2 R (mergeS a b dn).length q (rDeepStep (mergeS a b dn)) ∧ Below w.heap.size w wr) (fun _ _ i_ j_ _ _ _ => a.length + b.length - (RowKit.intOf i_).toNat - (RowKit.intOf j_).toNat)
      case atStart => exact ⟨0, 0, _, _, [], Nat.zero_le _, Nat.zero_le _, rfl, rfl, rfl, rfl, rfl, HG2.out, b2⟩
      case round =>
        obtain ⟨i, j, R, q, dn, hi, hj, rfl, rfl, rfl, rfl, hm, hg, hb⟩ := hrel
        have hdn := hm.len
        have hml := mergeS_len a b dn
        have HML := Lib.hid hml
        have hlast := mergeS_last HVA.out HVB.out dn
        have HM := Lib.hid hm
        have HG := Lib.hid hg
        have HB := Lib.hid hb
        have hz := hb.size
        have HRA := Lib.hid (RS.step hb HA0.out)
        have HRB := Lib.hid (RS.step hb HB0.out)
        obtain ⟨S, hS⟩ : ∃ S, mergeS a b dn = S := ⟨_, rfl⟩
        have hSl : S.length ≤ 128 := by rw [← hS]; omega
        have HST : Hid (∀ D, mergeS a b (dn ++ [D]) = mstep a b S D) := Lib.hid (fun D => by rw [mergeS_snoc, hS])
        have HS := Lib.hid hS
        rw [hS] at hlast HG
        rw [hS]
        obtain ⟨L, hL⟩ : ∃ L, lastWt S = L := ⟨_, rfl⟩
        have HL := Lib.hid hL
        rw [hL] at hlast
        rw [hL]
        clear hm hg hb hml hdn hS hL
        have wi : IntKind.i64.wrap ((i : Int) + 1) = i + 1 := IntWalk.i64_in _ (by omega)
        have wj : IntKind.i64.wrap ((j : Int) + 1) = j + 1 := IntWalk.i64_in _ (by omega)
        have HTA0 : Hid (∀ D p, lastW (upto D) a = p → ∀ wx, Below w.heap.size w wx → Calls Try.prog 34 #[.slice A a.length c, .int .i64 (D + 1)] wx fun e w' => e = .returned (.int .i64 p) ∧ Below wx.heap.size wx w') := Lib.hid (fun D p hp wx h => by have h0 := S_Transmittance (d := D + 1) wx (RS.step h HA0.out); rw [show transF a (D + 1) = p by unfold transF; rw [if_pos HVA.out, below_upto, hp]] at h0; with_reducible exact h0)
        have HTB0 : Hid (∀ D p, lastW (upto D) b = p → ∀ wx, Below w.heap.size w wx → Calls Try.prog 34 #[.slice B b.length d, .int .i64 (D + 1)] wx fun e w' => e = .returned (.int .i64 p) ∧ Below wx.heap.size wx w') := Lib.hid (fun D p hp wx h => by have h0 := S_Transmittance (d := D + 1) wx (RS.step h HB0.out); rw [show transF b (D + 1) = p by unfold transF; rw [if_pos HVB.out, below_upto, hp]] at h0; with_reducible exact h0)
        by_cases hia : i < a.length
        case neg =>
          by_cases hjb : j < b.length
          case neg =>
            obtain rfl : i = a.length := by omega
            obtain rfl : j = b.length := by omega
            have HF : Hid (mergeF a b = S.take 64) := Lib.hid (by rw [mergeF_yes HVA.out HVB.out, ← HM.out.done (Nat.le_refl _) (Nat.le_refl _), HS.out])
            by_cases h64 : 64 < S.length
            · obtain ⟨rb, ro, rfl, _⟩ := HG.out.rs.open_.2.2 (by omega)
              have HRQ : Hid (RS wr 2 (some ⟨rb, ro, none⟩) S.length q (rDeepStep S)) := Lib.hid HG.out.rs
              go_wp2_with fail
              have h64t : (S.take 64).length = 64 := by rw [List.length_take]; omega
              refine (S_cut_yes _ h64 HRQ.out).mono ?_
              rw [h64t]
              rintro e w3 ⟨P, pc, rfl, ho, hge, hb3⟩
              go_wp2_with fail
              go_ret
              rw [HF.out, h64t]
              exact ⟨P, pc, rfl, ho, fun x hx => Nat.le_trans hz (hge x hx), Below.step hb3 HB.out HB.out.size⟩
            · go_wp2_with fail
              refine (S_cut_no _ (by omega)).mono ?_
              rintro e w' ⟨rfl, rfl⟩
              go_wp2_with fail
              go_ret
              rw [HF.out, List.take_of_length_le (by omega)]
              exact Grow.made (base := w.heap.size) (by repeat (first | (with_reducible exact HG.out) | (with_reducible refine Grow.alloc ?_ _) | (with_reducible refine Grow.drewN ?_ _) | (with_reducible refine Grow.drew ?_) | ((with_reducible refine Grow.far ?_ ?_ _); rotate_left; (first | omega | (simp <;> omega))) | (with_reducible refine Grow.step (by assumption) ?_))) (Nat.le_refl _) (by repeat (first | (with_reducible exact Below.refl _ _) | (with_reducible exact HB.out) | (with_reducible assumption) | ((with_reducible refine Below.alloc ?_ ?_ _); rotate_left; (first | omega | (simp <;> omega))) | ((with_reducible refine Below.setCell ?_ ?_ _); rotate_left; (first | omega | (simp <;> omega))) | (with_reducible refine below_drewN ?_ _) | (with_reducible refine Below.drew ?_) | ((with_reducible refine Below.step (by assumption) ?_ ?_); rotate_left; (first | omega | (simp <;> omega)))))
          case pos =>
            obtain rfl : i = a.length := by omega
            obtain ⟨bb, bo, rfl, hbh, hcb⟩ := HRB.out.open_.2.2 (by omega)
            obtain ⟨kb0, _⟩ := rDeepStep_at (l := b) hjb
            have cb : wr.cell? ⟨bb, bo + j * 2, none⟩ = some (.int .i64 b[j].1) := by rw [hcb _ (by omega), kb0]
            have ib : (j : Int) < b.length := by omega
            have ib' : ¬ (j : Int) = b.length := by omega
            have hgb := (validDeep_get HVB.out hjb).1
            have e1 : ((j : Int) == (b.length : Int)) = false := by simpa using ib'
            clear hcb kb0
            have HN := Lib.hid (HM.out.b_only (Nat.le_refl _) hjb)
            generalize hy : b[j].1 = y at *
            clear hy
            obtain ⟨p, hp⟩ : ∃ p, lastW (upto y) a = p := ⟨_, rfl⟩
            obtain ⟨r, hr⟩ : ∃ r, lastW (upto y) b = r := ⟨_, rfl⟩
            have hpr : 0 ≤ p ∧ p ≤ 65536 := by rw [← hp]; exact upto_rng HVA.out y
            have hrr : 0 ≤ r ∧ r ≤ 65536 := by rw [← hr]; exact upto_rng HVB.out y
            have hpq := prod_rng hpr hrr
            obtain ⟨v, hv⟩ : ∃ v, (p * r).tdiv 65536 = v := ⟨_, rfl⟩
            have HMW : Hid (mwF a b y = v) := Lib.hid (by unfold mwF; rw [hp, hr, hv])
            have hvr : 0 ≤ v ∧ v ≤ 65536 := by have := mwF_rng HVA.out HVB.out y; rw [HMW.out] at this; exact this
            have wpr : -9223372036854775808 ≤ p * r ∧ p * r ≤ 9223372036854775807 := by omega
            have wzr : -9223372036854775808 ≤ y + 1 ∧ y + 1 ≤ 9223372036854775807 := by omega
            have wm : IntKind.i64.wrap (p * r) = p * r := IntWalk.i64_in _ wpr
            have wz : IntKind.i64.wrap (y + 1) = y + 1 := IntWalk.i64_in _ wzr
            clear wpr wzr
            have HTA := Lib.hid (HTA0.out y p hp)
            have HTB := Lib.hid (HTB0.out y r hr)
            clear hp hr hpr hrr
            by_cases hvl : v < L
            · go_wp2_with fail
              go_quiet (fail)
              go_wp2_with fail
              refine (HTA.out _ (by repeat (first | (with_reducible exact Below.refl _ _) | (with_reducible exact HB.out) | (with_reducible assumption) | ((with_reducible refine Below.alloc ?_ ?_ _); rotate_left; (first | omega | (simp <;> omega))) | ((with_reducible refine Below.setCell ?_ ?_ _); rotate_left; (first | omega | (simp <;> omega))) | (with_reducible refine below_drewN ?_ _) | (with_reducible refine Below.drew ?_) | ((with_reducible refine Below.step (by assumption) ?_ ?_); rotate_left; (first | omega | (simp <;> omega)))))).mono ?_
              rintro e x1 ⟨rfl, hb⟩
              have bx1 : Below w.heap.size w x1 := (by repeat (first | (with_reducible exact Below.refl _ _) | (with_reducible exact HB.out) | (with_reducible assumption) | ((with_reducible refine Below.alloc ?_ ?_ _); rotate_left; (first | omega | (simp <;> omega))) | ((with_reducible refine Below.setCell ?_ ?_ _); rotate_left; (first | omega | (simp <;> omega))) | (with_reducible refine below_drewN ?_ _) | (with_reducible refine Below.drew ?_) | ((with_reducible refine Below.step (by assumption) ?_ ?_); rotate_left; (first | omega | (simp <;> omega)))))
              have zx1 := hb.size
              (try simp at zx1)
              have HG1 : Hid (Grow x1 w.heap.size 61 2 R S.length q (rDeepStep S)) := Lib.hid (Grow.step hb (by repeat (first | (with_reducible exact HG.out) | (with_reducible refine Grow.alloc ?_ _) | (with_reducible refine Grow.drewN ?_ _) | (with_reducible refine Grow.drew ?_) | ((with_reducible refine Grow.far ?_ ?_ _); rotate_left; (first | omega | (simp <;> omega))) | (with_reducible refine Grow.step (by assumption) ?_))))
              clear hb
              go_wp2_with fail
              refine (HTB.out _ (by repeat (first | (with_reducible exact Below.refl _ _) | (with_reducible assumption) | ((with_reducible refine Below.alloc ?_ ?_ _); rotate_left; (first | omega | (simp <;> omega))) | ((with_reducible refine Below.setCell ?_ ?_ _); rotate_left; (first | omega | (simp <;> omega))) | (with_reducible refine below_drewN ?_ _) | (with_reducible refine Below.drew ?_) | ((with_reducible refine Below.step (by assumption) ?_ ?_); rotate_left; (first | omega | (simp <;> omega)))))).mono ?_
              rintro e x2 ⟨rfl, hb⟩
              have bx2 : Below w.heap.size w x2 := (by repeat (first | (with_reducible exact Below.refl _ _) | (with_reducible assumption) | ((with_reducible refine Below.alloc ?_ ?_ _); rotate_left; (first | omega | (simp <;> omega))) | ((with_reducible refine Below.setCell ?_ ?_ _); rotate_left; (first | omega | (simp <;> omega))) | (with_reducible refine below_drewN ?_ _) | (with_reducible refine Below.drew ?_) | ((with_reducible refine Below.step (by assumption) ?_ ?_); rotate_left; (first | omega | (simp <;> omega)))))
              have zx2 := hb.size
              (try simp at zx2)
              have HG2 : Hid (Grow x2 w.heap.size 61 2 R S.length q (rDeepStep S)) := Lib.hid (Grow.step hb (by repeat (first | (with_reducible exact HG1.out) | (with_reducible refine Grow.alloc ?_ _) | (with_reducible refine Grow.drewN ?_ _) | (with_reducible refine Grow.drew ?_) | ((with_reducible refine Grow.far ?_ ?_ _); rotate_left; (first | omega | (simp <;> omega))) | (with_reducible refine Grow.step (by assumption) ?_))))
              clear hb
              have HS2 : Hid (mergeS a b (dn ++ [y]) = S ++ [(y, v)]) := Lib.hid (by rw [HST.out]; unfold mstep; rw [HMW.out, HL.out, if_pos hvl])
              go_wp2_with (at_builtin; refine wpList_app (by rfl) _ _ 37 (by rfl) (w.heap.size) 61 (.agg #[.int .i64 0, .int .i64 0]) 2 16 Try.underlying37 T.infoDeepStep rfl (by decide) (xs := rDeepStep S) (by rfl) ?_ (ys := rDeepStep [(y, v)]) (by rfl) ?_ (rDeepStep_one _) ?_ ?_ ?_ ?_; (exact (by repeat (first | (with_reducible exact HG2.out) | (with_reducible refine Grow.alloc ?_ _) | (with_reducible refine Grow.drewN ?_ _) | (with_reducible refine Grow.drew ?_) | ((with_reducible refine Grow.far ?_ ?_ _); rotate_left; (first | omega | (simp <;> omega))) | (with_reducible refine Grow.step (by assumption) ?_)))); (exact (Grow.rs (base := 0) (n := 1) (c := 1) (by repeat (first | (with_reducible refine Grow.drewN ?_ _) | (with_reducible refine Grow.drew ?_) | (refine Grow.lit_at (by simp) (by rfl) (Nat.zero_le _) (by unfold maxLen; omega)))))); (unfold maxLen; omega); (omega); (first | omega | (simp <;> omega)); rintro A' c' w2 gA; have g1 := gA.1; have g2 := gA.2.1; rw [rDeepStep_snoc] at g1; have HGN := Lib.hid g1; have HBN : Hid (Below w.heap.size w w2) := Lib.hid (Below.trans (by repeat (first | (with_reducible exact Below.refl _ _) | (with_reducible assumption) | ((with_reducible refine Below.alloc ?_ ?_ _); rotate_left; (first | omega | (simp <;> omega))) | ((with_reducible refine Below.setCell ?_ ?_ _); rotate_left; (first | omega | (simp <;> omega))) | (with_reducible refine below_drewN ?_ _) | (with_reducible refine Below.drew ?_) | ((with_reducible refine Below.step (by assumption) ?_ ?_); rotate_left; (first | omega | (simp <;> omega))))) g2); clear gA g1 g2)
              go_roundw
              case rel => exact ⟨a.length, j + 1, _, _, dn ++ [y], by omega, by omega, by go_num, by go_num, by rw [HS2.out, List.length_append]; rfl, by rw [HS2.out, lastWt_snoc], HN.out, by rw [HS2.out, List.length_append]; exact HGN.out, HBN.out⟩
              case measure => simp [RowKit.intOf]; omega
            · go_wp2_with fail
              go_quiet (fail)
              go_wp2_with fail
              refine (HTA.out _ (by repeat (first | (with_reducible exact Below.refl _ _) | (with_reducible exact HB.out) | (with_reducible assumption) | ((with_reducible refine Below.alloc ?_ ?_ _); rotate_left; (first | omega | (simp <;> omega))) | ((with_reducible refine Below.setCell ?_ ?_ _); rotate_left; (first | omega | (simp <;> omega))) | (with_reducible refine below_drewN ?_ _) | (with_reducible refine Below.drew ?_) | ((with_reducible refine Below.step (by assumption) ?_ ?_); rotate_left; (first | omega | (simp <;> omega)))))).mono ?_
              rintro e x1 ⟨rfl, hb⟩
              have bx1 : Below w.heap.size w x1 := (by repeat (first | (with_reducible exact Below.refl _ _) | (with_reducible exact HB.out) | (with_reducible assumption) | ((with_reducible refine Below.alloc ?_ ?_ _); rotate_left; (first | omega | (simp <;> omega))) | ((with_reducible refine Below.setCell ?_ ?_ _); rotate_left; (first | omega | (simp <;> omega))) | (with_reducible refine below_drewN ?_ _) | (with_reducible refine Below.drew ?_) | ((with_reducible refine Below.step (by assumption) ?_ ?_); rotate_left; (first | omega | (simp <;> omega)))))
              have zx1 := hb.size
              (try simp at zx1)
              have HG1 : Hid (Grow x1 w.heap.size 61 2 R S.length q (rDeepStep S)) := Lib.hid (Grow.step hb (by repeat (first | (with_reducible exact HG.out) | (with_reducible refine Grow.alloc ?_ _) | (with_reducible refine Grow.drewN ?_ _) | (with_reducible refine Grow.drew ?_) | ((with_reducible refine Grow.far ?_ ?_ _); rotate_left; (first | omega | (simp <;> omega))) | (with_reducible refine Grow.step (by assumption) ?_))))
              clear hb
              go_wp2_with fail
              refine (HTB.out _ (by repeat (first | (with_reducible exact Below.refl _ _) | (with_reducible assumption) | ((with_reducible refine Below.alloc ?_ ?_ _); rotate_left; (first | omega | (simp <;> omega))) | ((with_reducible refine Below.setCell ?_ ?_ _); rotate_left; (first | omega | (simp <;> omega))) | (with_reducible refine below_drewN ?_ _) | (with_reducible refine Below.drew ?_) | ((with_reducible refine Below.step (by assumption) ?_ ?_); rotate_left; (first | omega | (simp <;> omega)))))).mono ?_
              rintro e x2 ⟨rfl, hb⟩
              have bx2 : Below w.heap.size w x2 := (by repeat (first | (with_reducible exact Below.refl _ _) | (with_reducible assumption) | ((with_reducible refine Below.alloc ?_ ?_ _); rotate_left; (first | omega | (simp <;> omega))) | ((with_reducible refine Below.setCell ?_ ?_ _); rotate_left; (first | omega | (simp <;> omega))) | (with_reducible refine below_drewN ?_ _) | (with_reducible refine Below.drew ?_) | ((with_reducible refine Below.step (by assumption) ?_ ?_); rotate_left; (first | omega | (simp <;> omega)))))
              have zx2 := hb.size
              (try simp at zx2)
              have HG2 : Hid (Grow x2 w.heap.size 61 2 R S.length q (rDeepStep S)) := Lib.hid (Grow.step hb (by repeat (first | (with_reducible exact HG1.out) | (with_reducible refine Grow.alloc ?_ _) | (with_reducible refine Grow.drewN ?_ _) | (with_reducible refine Grow.drew ?_) | ((with_reducible refine Grow.far ?_ ?_ _); rotate_left; (first | omega | (simp <;> omega))) | (with_reducible refine Grow.step (by assumption) ?_))))
              clear hb
              have HS2 : Hid (mergeS a b (dn ++ [y]) = S) := Lib.hid (by rw [HST.out]; unfold mstep; rw [HMW.out, HL.out, if_neg (Int.not_lt.2 hvl)])
              go_wp2_with fail
              go_roundw
              case rel => exact ⟨a.length, j + 1, _, _, dn ++ [y], by omega, by omega, by go_num, by go_num, by rw [HS2.out], by rw [HS2.out, HL.out], HN.out, by rw [HS2.out]; exact (by repeat (first | (with_reducible exact HG2.out) | (with_reducible refine Grow.alloc ?_ _) | (with_reducible refine Grow.drewN ?_ _) | (with_reducible refine Grow.drew ?_) | ((with_reducible refine Grow.far ?_ ?_ _); rotate_left; (first | omega | (simp <;> omega))) | (with_reducible refine Grow.step (by assumption) ?_))), (by repeat (first | (with_reducible exact Below.refl _ _) | (with_reducible assumption) | ((with_reducible refine Below.alloc ?_ ?_ _); rotate_left; (first | omega | (simp <;> omega))) | ((with_reducible refine Below.setCell ?_ ?_ _); rotate_left; (first | omega | (simp <;> omega))) | (with_reducible refine below_drewN ?_ _) | (with_reducible refine Below.drew ?_) | ((with_reducible refine Below.step (by assumption) ?_ ?_); rotate_left; (first | omega | (simp <;> omega)))))⟩
              case measure => simp [RowKit.intOf]; omega
        case pos =>
          by_cases hjb : j < b.length
          case neg =>
            obtain rfl : j = b.length := by omega
            obtain ⟨ab, ao, rfl, hah, hca⟩ := HRA.out.open_.2.2 (by omega)
            obtain ⟨ka0, _⟩ := rDeepStep_at (l := a) hia
            have ca : wr.cell? ⟨ab, ao + i * 2, none⟩ = some (.int .i64 a[i].1) := by rw [hca _ (by omega), ka0]
            have ia : (i : Int) < a.length := by omega
            have ia' : ¬ (i : Int) = a.length := by omega
            have hga := (validDeep_get HVA.out hia).1
            have d1 : decide ((i : Int) < (a.length : Int)) = true := by simpa using ia
            clear hca ka0
            have HN := Lib.hid (HM.out.a_only hia (Nat.le_refl _))
            generalize hx : a[i].1 = x at *
            clear hx
            obtain ⟨p, hp⟩ : ∃ p, lastW (upto x) a = p := ⟨_, rfl⟩
            obtain ⟨r, hr⟩ : ∃ r, lastW (upto x) b = r := ⟨_, rfl⟩
            have hpr : 0 ≤ p ∧ p ≤ 65536 := by rw [← hp]; exact upto_rng HVA.out x
            have hrr : 0 ≤ r ∧ r ≤ 65536 := by rw [← hr]; exact upto_rng HVB.out x
            have hpq := prod_rng hpr hrr
            obtain ⟨v, hv⟩ : ∃ v, (p * r).tdiv 65536 = v := ⟨_, rfl⟩
            have HMW : Hid (mwF a b x = v) := Lib.hid (by unfold mwF; rw [hp, hr, hv])
            have hvr : 0 ≤ v ∧ v ≤ 65536 := by have := mwF_rng HVA.out HVB.out x; rw [HMW.out] at this; exact this
            have wpr : -9223372036854775808 ≤ p * r ∧ p * r ≤ 9223372036854775807 := by omega
            have wzr : -9223372036854775808 ≤ x + 1 ∧ x + 1 ≤ 9223372036854775807 := by omega
            have wm : IntKind.i64.wrap (p * r) = p * r := IntWalk.i64_in _ wpr
            have wz : IntKind.i64.wrap (x + 1) = x + 1 := IntWalk.i64_in _ wzr
            clear wpr wzr
            have HTA := Lib.hid (HTA0.out x p hp)
            have HTB := Lib.hid (HTB0.out x r hr)
            clear hp hr hpr hrr
            by_cases hvl : v < L
            · go_wp2_with fail
              go_quiet (fail)
              go_wp2_with fail
              refine (HTA.out _ (by repeat (first | (with_reducible exact Below.refl _ _) | (with_reducible exact HB.out) | (with_reducible assumption) | ((with_reducible refine Below.alloc ?_ ?_ _); rotate_left; (first | omega | (simp <;> omega))) | ((with_reducible refine Below.setCell ?_ ?_ _); rotate_left; (first | omega | (simp <;> omega))) | (with_reducible refine below_drewN ?_ _) | (with_reducible refine Below.drew ?_) | ((with_reducible refine Below.step (by assumption) ?_ ?_); rotate_left; (first | omega | (simp <;> omega)))))).mono ?_
              rintro e x1 ⟨rfl, hb⟩
              have bx1 : Below w.heap.size w x1 := (by repeat (first | (with_reducible exact Below.refl _ _) | (with_reducible exact HB.out) | (with_reducible assumption) | ((with_reducible refine Below.alloc ?_ ?_ _); rotate_left; (first | omega | (simp <;> omega))) | ((with_reducible refine Below.setCell ?_ ?_ _); rotate_left; (first | omega | (simp <;> omega))) | (with_reducible refine below_drewN ?_ _) | (with_reducible refine Below.drew ?_) | ((with_reducible refine Below.step (by assumption) ?_ ?_); rotate_left; (first | omega | (simp <;> omega)))))
              have zx1 := hb.size
              (try simp at zx1)
              have HG1 : Hid (Grow x1 w.heap.size 61 2 R S.length q (rDeepStep S)) := Lib.hid (Grow.step hb (by repeat (first | (with_reducible exact HG.out) | (with_reducible refine Grow.alloc ?_ _) | (with_reducible refine Grow.drewN ?_ _) | (with_reducible refine Grow.drew ?_) | ((with_reducible refine Grow.far ?_ ?_ _); rotate_left; (first | omega | (simp <;> omega))) | (with_reducible refine Grow.step (by assumption) ?_))))
              clear hb
              go_wp2_with fail
              refine (HTB.out _ (by repeat (first | (with_reducible exact Below.refl _ _) | (with_reducible assumption) | ((with_reducible refine Below.alloc ?_ ?_ _); rotate_left; (first | omega | (simp <;> omega))) | ((with_reducible refine Below.setCell ?_ ?_ _); rotate_left; (first | omega | (simp <;> omega))) | (with_reducible refine below_drewN ?_ _) | (with_reducible refine Below.drew ?_) | ((with_reducible refine Below.step (by assumption) ?_ ?_); rotate_left; (first | omega | (simp <;> omega)))))).mono ?_
              rintro e x2 ⟨rfl, hb⟩
              have bx2 : Below w.heap.size w x2 := (by repeat (first | (with_reducible exact Below.refl _ _) | (with_reducible assumption) | ((with_reducible refine Below.alloc ?_ ?_ _); rotate_left; (first | omega | (simp <;> omega))) | ((with_reducible refine Below.setCell ?_ ?_ _); rotate_left; (first | omega | (simp <;> omega))) | (with_reducible refine below_drewN ?_ _) | (with_reducible refine Below.drew ?_) | ((with_reducible refine Below.step (by assumption) ?_ ?_); rotate_left; (first | omega | (simp <;> omega)))))
              have zx2 := hb.size
              (try simp at zx2)
              have HG2 : Hid (Grow x2 w.heap.size 61 2 R S.length q (rDeepStep S)) := Lib.hid (Grow.step hb (by repeat (first | (with_reducible exact HG1.out) | (with_reducible refine Grow.alloc ?_ _) | (with_reducible refine Grow.drewN ?_ _) | (with_reducible refine Grow.drew ?_) | ((with_reducible refine Grow.far ?_ ?_ _); rotate_left; (first | omega | (simp <;> omega))) | (with_reducible refine Grow.step (by assumption) ?_))))
              clear hb
              have HS2 : Hid (mergeS a b (dn ++ [x]) = S ++ [(x, v)]) := Lib.hid (by rw [HST.out]; unfold mstep; rw [HMW.out, HL.out, if_pos hvl])
              go_wp2_with (at_builtin; refine wpList_app (by rfl) _ _ 37 (by rfl) (w.heap.size) 61 (.agg #[.int .i64 0, .int .i64 0]) 2 16 Try.underlying37 T.infoDeepStep rfl (by decide) (xs := rDeepStep S) (by rfl) ?_ (ys := rDeepStep [(x, v)]) (by rfl) ?_ (rDeepStep_one _) ?_ ?_ ?_ ?_; (exact (by repeat (first | (with_reducible exact HG2.out) | (with_reducible refine Grow.alloc ?_ _) | (with_reducible refine Grow.drewN ?_ _) | (with_reducible refine Grow.drew ?_) | ((with_reducible refine Grow.far ?_ ?_ _); rotate_left; (first | omega | (simp <;> omega))) | (with_reducible refine Grow.step (by assumption) ?_)))); (exact (Grow.rs (base := 0) (n := 1) (c := 1) (by repeat (first | (with_reducible refine Grow.drewN ?_ _) | (with_reducible refine Grow.drew ?_) | (refine Grow.lit_at (by simp) (by rfl) (Nat.zero_le _) (by unfold maxLen; omega)))))); (unfold maxLen; omega); (omega); (first | omega | (simp <;> omega)); rintro A' c' w2 gA; have g1 := gA.1; have g2 := gA.2.1; rw [rDeepStep_snoc] at g1; have HGN := Lib.hid g1; have HBN : Hid (Below w.heap.size w w2) := Lib.hid (Below.trans (by repeat (first | (with_reducible exact Below.refl _ _) | (with_reducible assumption) | ((with_reducible refine Below.alloc ?_ ?_ _); rotate_left; (first | omega | (simp <;> omega))) | ((with_reducible refine Below.setCell ?_ ?_ _); rotate_left; (first | omega | (simp <;> omega))) | (with_reducible refine below_drewN ?_ _) | (with_reducible refine Below.drew ?_) | ((with_reducible refine Below.step (by assumption) ?_ ?_); rotate_left; (first | omega | (simp <;> omega))))) g2); clear gA g1 g2)
              go_roundw
              case rel => exact ⟨i + 1, b.length, _, _, dn ++ [x], by omega, by omega, by go_num, by go_num, by rw [HS2.out, List.length_append]; rfl, by rw [HS2.out, lastWt_snoc], HN.out, by rw [HS2.out, List.length_append]; exact HGN.out, HBN.out⟩
              case measure => simp [RowKit.intOf]; omega
            · go_wp2_with fail
              go_quiet (fail)
              go_wp2_with fail
              refine (HTA.out _ (by repeat (first | (with_reducible exact Below.refl _ _) | (with_reducible exact HB.out) | (with_reducible assumption) | ((with_reducible refine Below.alloc ?_ ?_ _); rotate_left; (first | omega | (simp <;> omega))) | ((with_reducible refine Below.setCell ?_ ?_ _); rotate_left; (first | omega | (simp <;> omega))) | (with_reducible refine below_drewN ?_ _) | (with_reducible refine Below.drew ?_) | ((with_reducible refine Below.step (by assumption) ?_ ?_); rotate_left; (first | omega | (simp <;> omega)))))).mono ?_
              rintro e x1 ⟨rfl, hb⟩
              have bx1 : Below w.heap.size w x1 := (by repeat (first | (with_reducible exact Below.refl _ _) | (with_reducible exact HB.out) | (with_reducible assumption) | ((with_reducible refine Below.alloc ?_ ?_ _); rotate_left; (first | omega | (simp <;> omega))) | ((with_reducible refine Below.setCell ?_ ?_ _); rotate_left; (first | omega | (simp <;> omega))) | (with_reducible refine below_drewN ?_ _) | (with_reducible refine Below.drew ?_) | ((with_reducible refine Below.step (by assumption) ?_ ?_); rotate_left; (first | omega | (simp <;> omega)))))
              have zx1 := hb.size
              (try simp at zx1)
              have HG1 : Hid (Grow x1 w.heap.size 61 2 R S.length q (rDeepStep S)) := Lib.hid (Grow.step hb (by repeat (first | (with_reducible exact HG.out) | (with_reducible refine Grow.alloc ?_ _) | (with_reducible refine Grow.drewN ?_ _) | (with_reducible refine Grow.drew ?_) | ((with_reducible refine Grow.far ?_ ?_ _); rotate_left; (first | omega | (simp <;> omega))) | (with_reducible refine Grow.step (by assumption) ?_))))
              clear hb
              go_wp2_with fail
              refine (HTB.out _ (by repeat (first | (with_reducible exact Below.refl _ _) | (with_reducible assumption) | ((with_reducible refine Below.alloc ?_ ?_ _); rotate_left; (first | omega | (simp <;> omega))) | ((with_reducible refine Below.setCell ?_ ?_ _); rotate_left; (first | omega | (simp <;> omega))) | (with_reducible refine below_drewN ?_ _) | (with_reducible refine Below.drew ?_) | ((with_reducible refine Below.step (by assumption) ?_ ?_); rotate_left; (first | omega | (simp <;> omega)))))).mono ?_
              rintro e x2 ⟨rfl, hb⟩
              have bx2 : Below w.heap.size w x2 := (by repeat (first | (with_reducible exact Below.refl _ _) | (with_reducible assumption) | ((with_reducible refine Below.alloc ?_ ?_ _); rotate_left; (first | omega | (simp <;> omega))) | ((with_reducible refine Below.setCell ?_ ?_ _); rotate_left; (first | omega | (simp <;> omega))) | (with_reducible refine below_drewN ?_ _) | (with_reducible refine Below.drew ?_) | ((with_reducible refine Below.step (by assumption) ?_ ?_); rotate_left; (first | omega | (simp <;> omega)))))
              have zx2 := hb.size
              (try simp at zx2)
              have HG2 : Hid (Grow x2 w.heap.size 61 2 R S.length q (rDeepStep S)) := Lib.hid (Grow.step hb (by repeat (first | (with_reducible exact HG1.out) | (with_reducible refine Grow.alloc ?_ _) | (with_reducible refine Grow.drewN ?_ _) | (with_reducible refine Grow.drew ?_) | ((with_reducible refine Grow.far ?_ ?_ _); rotate_left; (first | omega | (simp <;> omega))) | (with_reducible refine Grow.step (by assumption) ?_))))
              clear hb
              have HS2 : Hid (mergeS a b (dn ++ [x]) = S) := Lib.hid (by rw [HST.out]; unfold mstep; rw [HMW.out, HL.out, if_neg (Int.not_lt.2 hvl)])
              go_wp2_with fail
              go_roundw
              case rel => exact ⟨i + 1, b.length, _, _, dn ++ [x], by omega, by omega, by go_num, by go_num, by rw [HS2.out], by rw [HS2.out, HL.out], HN.out, by rw [HS2.out]; exact (by repeat (first | (with_reducible exact HG2.out) | (with_reducible refine Grow.alloc ?_ _) | (with_reducible refine Grow.drewN ?_ _) | (with_reducible refine Grow.drew ?_) | ((with_reducible refine Grow.far ?_ ?_ _); rotate_left; (first | omega | (simp <;> omega))) | (with_reducible refine Grow.step (by assumption) ?_))), (by repeat (first | (with_reducible exact Below.refl _ _) | (with_reducible assumption) | ((with_reducible refine Below.alloc ?_ ?_ _); rotate_left; (first | omega | (simp <;> omega))) | ((with_reducible refine Below.setCell ?_ ?_ _); rotate_left; (first | omega | (simp <;> omega))) | (with_reducible refine below_drewN ?_ _) | (with_reducible refine Below.drew ?_) | ((with_reducible refine Below.step (by assumption) ?_ ?_); rotate_left; (first | omega | (simp <;> omega)))))⟩
              case measure => simp [RowKit.intOf]; omega
          case pos =>
            rcases Int.lt_trichotomy a[i].1 b[j].1 with hxy | hxy | hxy
            · obtain ⟨ab, ao, rfl, hah, hca⟩ := HRA.out.open_.2.2 (by omega)
              obtain ⟨ka0, _⟩ := rDeepStep_at (l := a) hia
              have ca : wr.cell? ⟨ab, ao + i * 2, none⟩ = some (.int .i64 a[i].1) := by rw [hca _ (by omega), ka0]
              have ia : (i : Int) < a.length := by omega
              have ia' : ¬ (i : Int) = a.length := by omega
              have hga := (validDeep_get HVA.out hia).1
              have d1 : decide ((i : Int) < (a.length : Int)) = true := by simpa using ia
              clear hca ka0
              obtain ⟨bb, bo, rfl, hbh, hcb⟩ := HRB.out.open_.2.2 (by omega)
              obtain ⟨kb0, _⟩ := rDeepStep_at (l := b) hjb
              have cb : wr.cell? ⟨bb, bo + j * 2, none⟩ = some (.int .i64 b[j].1) := by rw [hcb _ (by omega), kb0]
              have ib : (j : Int) < b.length := by omega
              have ib' : ¬ (j : Int) = b.length := by omega
              have hgb := (validDeep_get HVB.out hjb).1
              have e1 : ((j : Int) == (b.length : Int)) = false := by simpa using ib'
              clear hcb kb0
              have HN := Lib.hid (HM.out.lt hia hjb hxy)
              generalize hx : a[i].1 = x at *
              generalize hy : b[j].1 = y at *
              clear hx hy
              have x1 : x ≤ y := by omega
              have x0 : decide (x ≤ y) = true := by simpa using x1
              have x2 : ¬ y = x := by omega
              have x3 : (y == x) = false := by simpa using x2
              obtain ⟨p, hp⟩ : ∃ p, lastW (upto x) a = p := ⟨_, rfl⟩
              obtain ⟨r, hr⟩ : ∃ r, lastW (upto x) b = r := ⟨_, rfl⟩
              have hpr : 0 ≤ p ∧ p ≤ 65536 := by rw [← hp]; exact upto_rng HVA.out x
              have hrr : 0 ≤ r ∧ r ≤ 65536 := by rw [← hr]; exact upto_rng HVB.out x
              have hpq := prod_rng hpr hrr
              obtain ⟨v, hv⟩ : ∃ v, (p * r).tdiv 65536 = v := ⟨_, rfl⟩
              have HMW : Hid (mwF a b x = v) := Lib.hid (by unfold mwF; rw [hp, hr, hv])
              have hvr : 0 ≤ v ∧ v ≤ 65536 := by have := mwF_rng HVA.out HVB.out x; rw [HMW.out] at this; exact this
              have wpr : -9223372036854775808 ≤ p * r ∧ p * r ≤ 9223372036854775807 := by omega
              have wzr : -9223372036854775808 ≤ x + 1 ∧ x + 1 ≤ 9223372036854775807 := by omega
              have wm : IntKind.i64.wrap (p * r) = p * r := IntWalk.i64_in _ wpr
              have wz : IntKind.i64.wrap (x + 1) = x + 1 := IntWalk.i64_in _ wzr
              clear wpr wzr
              have HTA := Lib.hid (HTA0.out x p hp)
              have HTB := Lib.hid (HTB0.out x r hr)
              clear hp hr hpr hrr
              by_cases hvl : v < L
              · go_wp2_with fail
                go_quiet (fail)
                go_wp2_with fail
                refine (HTA.out _ (by repeat (first | (with_reducible exact Below.refl _ _) | (with_reducible exact HB.out) | (with_reducible assumption) | ((with_reducible refine Below.alloc ?_ ?_ _); rotate_left; (first | omega | (simp <;> omega))) | ((with_reducible refine Below.setCell ?_ ?_ _); rotate_left; (first | omega | (simp <;> omega))) | (with_reducible refine below_drewN ?_ _) | (with_reducible refine Below.drew ?_) | ((with_reducible refine Below.step (by assumption) ?_ ?_); rotate_left; (first | omega | (simp <;> omega)))))).mono ?_
                rintro e x1 ⟨rfl, hb⟩
                have bx1 : Below w.heap.size w x1 := (by repeat (first | (with_reducible exact Below.refl _ _) | (with_reducible exact HB.out) | (with_reducible assumption) | ((with_reducible refine Below.alloc ?_ ?_ _); rotate_left; (first | omega | (simp <;> omega))) | ((with_reducible refine Below.setCell ?_ ?_ _); rotate_left; (first | omega | (simp <;> omega))) | (with_reducible refine below_drewN ?_ _) | (with_reducible refine Below.drew ?_) | ((with_reducible refine Below.step (by assumption) ?_ ?_); rotate_left; (first | omega | (simp <;> omega)))))
                have zx1 := hb.size
                (try simp at zx1)
                have HG1 : Hid (Grow x1 w.heap.size 61 2 R S.length q (rDeepStep S)) := Lib.hid (Grow.step hb (by repeat (first | (with_reducible exact HG.out) | (with_reducible refine Grow.alloc ?_ _) | (with_reducible refine Grow.drewN ?_ _) | (with_reducible refine Grow.drew ?_) | ((with_reducible refine Grow.far ?_ ?_ _); rotate_left; (first | omega | (simp <;> omega))) | (with_reducible refine Grow.step (by assumption) ?_))))
                clear hb
                go_wp2_with fail
                refine (HTB.out _ (by repeat (first | (with_reducible exact Below.refl _ _) | (with_reducible assumption) | ((with_reducible refine Below.alloc ?_ ?_ _); rotate_left; (first | omega | (simp <;> omega))) | ((with_reducible refine Below.setCell ?_ ?_ _); rotate_left; (first | omega | (simp <;> omega))) | (with_reducible refine below_drewN ?_ _) | (with_reducible refine Below.drew ?_) | ((with_reducible refine Below.step (by assumption) ?_ ?_); rotate_left; (first | omega | (simp <;> omega)))))).mono ?_
                rintro e x2 ⟨rfl, hb⟩
                have bx2 : Below w.heap.size w x2 := (by repeat (first | (with_reducible exact Below.refl _ _) | (with_reducible assumption) | ((with_reducible refine Below.alloc ?_ ?_ _); rotate_left; (first | omega | (simp <;> omega))) | ((with_reducible refine Below.setCell ?_ ?_ _); rotate_left; (first | omega | (simp <;> omega))) | (with_reducible refine below_drewN ?_ _) | (with_reducible refine Below.drew ?_) | ((with_reducible refine Below.step (by assumption) ?_ ?_); rotate_left; (first | omega | (simp <;> omega)))))
                have zx2 := hb.size
                (try simp at zx2)
                have HG2 : Hid (Grow x2 w.heap.size 61 2 R S.length q (rDeepStep S)) := Lib.hid (Grow.step hb (by repeat (first | (with_reducible exact HG1.out) | (with_reducible refine Grow.alloc ?_ _) | (with_reducible refine Grow.drewN ?_ _) | (with_reducible refine Grow.drew ?_) | ((with_reducible refine Grow.far ?_ ?_ _); rotate_left; (first | omega | (simp <;> omega))) | (with_reducible refine Grow.step (by assumption) ?_))))
                clear hb
                have HS2 : Hid (mergeS a b (dn ++ [x]) = S ++ [(x, v)]) := Lib.hid (by rw [HST.out]; unfold mstep; rw [HMW.out, HL.out, if_pos hvl])
                go_wp2_with (at_builtin; refine wpList_app (by rfl) _ _ 37 (by rfl) (w.heap.size) 61 (.agg #[.int .i64 0, .int .i64 0]) 2 16 Try.underlying37 T.infoDeepStep rfl (by decide) (xs := rDeepStep S) (by rfl) ?_ (ys := rDeepStep [(x, v)]) (by rfl) ?_ (rDeepStep_one _) ?_ ?_ ?_ ?_; (exact (by repeat (first | (with_reducible exact HG2.out) | (with_reducible refine Grow.alloc ?_ _) | (with_reducible refine Grow.drewN ?_ _) | (with_reducible refine Grow.drew ?_) | ((with_reducible refine Grow.far ?_ ?_ _); rotate_left; (first | omega | (simp <;> omega))) | (with_reducible refine Grow.step (by assumption) ?_)))); (exact (Grow.rs (base := 0) (n := 1) (c := 1) (by repeat (first | (with_reducible refine Grow.drewN ?_ _) | (with_reducible refine Grow.drew ?_) | (refine Grow.lit_at (by simp) (by rfl) (Nat.zero_le _) (by unfold maxLen; omega)))))); (unfold maxLen; omega); (omega); (first | omega | (simp <;> omega)); rintro A' c' w2 gA; have g1 := gA.1; have g2 := gA.2.1; rw [rDeepStep_snoc] at g1; have HGN := Lib.hid g1; have HBN : Hid (Below w.heap.size w w2) := Lib.hid (Below.trans (by repeat (first | (with_reducible exact Below.refl _ _) | (with_reducible assumption) | ((with_reducible refine Below.alloc ?_ ?_ _); rotate_left; (first | omega | (simp <;> omega))) | ((with_reducible refine Below.setCell ?_ ?_ _); rotate_left; (first | omega | (simp <;> omega))) | (with_reducible refine below_drewN ?_ _) | (with_reducible refine Below.drew ?_) | ((with_reducible refine Below.step (by assumption) ?_ ?_); rotate_left; (first | omega | (simp <;> omega))))) g2); clear gA g1 g2)
                go_roundw
                case rel => exact ⟨i + 1, j, _, _, dn ++ [x], by omega, by omega, by go_num, by go_num, by rw [HS2.out, List.length_append]; rfl, by rw [HS2.out, lastWt_snoc], HN.out, by rw [HS2.out, List.length_append]; exact HGN.out, HBN.out⟩
                case measure => simp [RowKit.intOf]; omega
              · go_wp2_with fail
                go_quiet (fail)
                go_wp2_with fail
                refine (HTA.out _ (by repeat (first | (with_reducible exact Below.refl _ _) | (with_reducible exact HB.out) | (with_reducible assumption) | ((with_reducible refine Below.alloc ?_ ?_ _); rotate_left; (first | omega | (simp <;> omega))) | ((with_reducible refine Below.setCell ?_ ?_ _); rotate_left; (first | omega | (simp <;> omega))) | (with_reducible refine below_drewN ?_ _) | (with_reducible refine Below.drew ?_) | ((with_reducible refine Below.step (by assumption) ?_ ?_); rotate_left; (first | omega | (simp <;> omega)))))).mono ?_
                rintro e x1 ⟨rfl, hb⟩
                have bx1 : Below w.heap.size w x1 := (by repeat (first | (with_reducible exact Below.refl _ _) | (with_reducible exact HB.out) | (with_reducible assumption) | ((with_reducible refine Below.alloc ?_ ?_ _); rotate_left; (first | omega | (simp <;> omega))) | ((with_reducible refine Below.setCell ?_ ?_ _); rotate_left; (first | omega | (simp <;> omega))) | (with_reducible refine below_drewN ?_ _) | (with_reducible refine Below.drew ?_) | ((with_reducible refine Below.step (by assumption) ?_ ?_); rotate_left; (first | omega | (simp <;> omega)))))
                have zx1 := hb.size
                (try simp at zx1)
                have HG1 : Hid (Grow x1 w.heap.size 61 2 R S.length q (rDeepStep S)) := Lib.hid (Grow.step hb (by repeat (first | (with_reducible exact HG.out) | (with_reducible refine Grow.alloc ?_ _) | (with_reducible refine Grow.drewN ?_ _) | (with_reducible refine Grow.drew ?_) | ((with_reducible refine Grow.far ?_ ?_ _); rotate_left; (first | omega | (simp <;> omega))) | (with_reducible refine Grow.step (by assumption) ?_))))
                clear hb
                go_wp2_with fail
                refine (HTB.out _ (by repeat (first | (with_reducible exact Below.refl _ _) | (with_reducible assumption) | ((with_reducible refine Below.alloc ?_ ?_ _); rotate_left; (first | omega | (simp <;> omega))) | ((with_reducible refine Below.setCell ?_ ?_ _); rotate_left; (first | omega | (simp <;> omega))) | (with_reducible refine below_drewN ?_ _) | (with_reducible refine Below.drew ?_) | ((with_reducible refine Below.step (by assumption) ?_ ?_); rotate_left; (first | omega | (simp <;> omega)))))).mono ?_
                rintro e x2 ⟨rfl, hb⟩
                have bx2 : Below w.heap.size w x2 := (by repeat (first | (with_reducible exact Below.refl _ _) | (with_reducible assumption) | ((with_reducible refine Below.alloc ?_ ?_ _); rotate_left; (first | omega | (simp <;> omega))) | ((with_reducible refine Below.setCell ?_ ?_ _); rotate_left; (first | omega | (simp <;> omega))) | (with_reducible refine below_drewN ?_ _) | (with_reducible refine Below.drew ?_) | ((with_reducible refine Below.step (by assumption) ?_ ?_); rotate_left; (first | omega | (simp <;> omega)))))
                have zx2 := hb.size
                (try simp at zx2)
                have HG2 : Hid (Grow x2 w.heap.size 61 2 R S.length q (rDeepStep S)) := Lib.hid (Grow.step hb (by repeat (first | (with_reducible exact HG1.out) | (with_reducible refine Grow.alloc ?_ _) | (with_reducible refine Grow.drewN ?_ _) | (with_reducible refine Grow.drew ?_) | ((with_reducible refine Grow.far ?_ ?_ _); rotate_left; (first | omega | (simp <;> omega))) | (with_reducible refine Grow.step (by assumption) ?_))))
                clear hb
                have HS2 : Hid (mergeS a b (dn ++ [x]) = S) := Lib.hid (by rw [HST.out]; unfold mstep; rw [HMW.out, HL.out, if_neg (Int.not_lt.2 hvl)])
                go_wp2_with fail
                go_roundw
                case rel => exact ⟨i + 1, j, _, _, dn ++ [x], by omega, by omega, by go_num, by go_num, by rw [HS2.out], by rw [HS2.out, HL.out], HN.out, by rw [HS2.out]; exact (by repeat (first | (with_reducible exact HG2.out) | (with_reducible refine Grow.alloc ?_ _) | (with_reducible refine Grow.drewN ?_ _) | (with_reducible refine Grow.drew ?_) | ((with_reducible refine Grow.far ?_ ?_ _); rotate_left; (first | omega | (simp <;> omega))) | (with_reducible refine Grow.step (by assumption) ?_))), (by repeat (first | (with_reducible exact Below.refl _ _) | (with_reducible assumption) | ((with_reducible refine Below.alloc ?_ ?_ _); rotate_left; (first | omega | (simp <;> omega))) | ((with_reducible refine Below.setCell ?_ ?_ _); rotate_left; (first | omega | (simp <;> omega))) | (with_reducible refine below_drewN ?_ _) | (with_reducible refine Below.drew ?_) | ((with_reducible refine Below.step (by assumption) ?_ ?_); rotate_left; (first | omega | (simp <;> omega)))))⟩
                case measure => simp [RowKit.intOf]; omega
            · obtain ⟨ab, ao, rfl, hah, hca⟩ := HRA.out.open_.2.2 (by omega)
              obtain ⟨ka0, _⟩ := rDeepStep_at (l := a) hia
              have ca : wr.cell? ⟨ab, ao + i * 2, none⟩ = some (.int .i64 a[i].1) := by rw [hca _ (by omega), ka0]
              have ia : (i : Int) < a.length := by omega
              have ia' : ¬ (i : Int) = a.length := by omega
              have hga := (validDeep_get HVA.out hia).1
              have d1 : decide ((i : Int) < (a.length : Int)) = true := by simpa using ia
              clear hca ka0
              obtain ⟨bb, bo, rfl, hbh, hcb⟩ := HRB.out.open_.2.2 (by omega)
              obtain ⟨kb0, _⟩ := rDeepStep_at (l := b) hjb
              have cb : wr.cell? ⟨bb, bo + j * 2, none⟩ = some (.int .i64 b[j].1) := by rw [hcb _ (by omega), kb0]
              have ib : (j : Int) < b.length := by omega
              have ib' : ¬ (j : Int) = b.length := by omega
              have hgb := (validDeep_get HVB.out hjb).1
              have e1 : ((j : Int) == (b.length : Int)) = false := by simpa using ib'
              clear hcb kb0
              have HN := Lib.hid (HM.out.eq hia hjb hxy)
              rw [← hxy] at cb hgb
              generalize hx : a[i].1 = x at *
              clear hx hxy
              obtain ⟨p, hp⟩ : ∃ p, lastW (upto x) a = p := ⟨_, rfl⟩
              obtain ⟨r, hr⟩ : ∃ r, lastW (upto x) b = r := ⟨_, rfl⟩
              have hpr : 0 ≤ p ∧ p ≤ 65536 := by rw [← hp]; exact upto_rng HVA.out x
              have hrr : 0 ≤ r ∧ r ≤ 65536 := by rw [← hr]; exact upto_rng HVB.out x
              have hpq := prod_rng hpr hrr
              obtain ⟨v, hv⟩ : ∃ v, (p * r).tdiv 65536 = v := ⟨_, rfl⟩
              have HMW : Hid (mwF a b x = v) := Lib.hid (by unfold mwF; rw [hp, hr, hv])
              have hvr : 0 ≤ v ∧ v ≤ 65536 := by have := mwF_rng HVA.out HVB.out x; rw [HMW.out] at this; exact this
              have wpr : -9223372036854775808 ≤ p * r ∧ p * r ≤ 9223372036854775807 := by omega
              have wzr : -9223372036854775808 ≤ x + 1 ∧ x + 1 ≤ 9223372036854775807 := by omega
              have wm : IntKind.i64.wrap (p * r) = p * r := IntWalk.i64_in _ wpr
              have wz : IntKind.i64.wrap (x + 1) = x + 1 := IntWalk.i64_in _ wzr
              clear wpr wzr
              have HTA := Lib.hid (HTA0.out x p hp)
              have HTB := Lib.hid (HTB0.out x r hr)
              clear hp hr hpr hrr
              by_cases hvl : v < L
              · go_wp2_with fail
                go_quiet (fail)
                go_wp2_with fail
                refine (HTA.out _ (by repeat (first | (with_reducible exact Below.refl _ _) | (with_reducible exact HB.out) | (with_reducible assumption) | ((with_reducible refine Below.alloc ?_ ?_ _); rotate_left; (first | omega | (simp <;> omega))) | ((with_reducible refine Below.setCell ?_ ?_ _); rotate_left; (first | omega | (simp <;> omega))) | (with_reducible refine below_drewN ?_ _) | (with_reducible refine Below.drew ?_) | ((with_reducible refine Below.step (by assumption) ?_ ?_); rotate_left; (first | omega | (simp <;> omega)))))).mono ?_
                rintro e x1 ⟨rfl, hb⟩
                have bx1 : Below w.heap.size w x1 := (by repeat (first | (with_reducible exact Below.refl _ _) | (with_reducible exact HB.out) | (with_reducible assumption) | ((with_reducible refine Below.alloc ?_ ?_ _); rotate_left; (first | omega | (simp <;> omega))) | ((with_reducible refine Below.setCell ?_ ?_ _); rotate_left; (first | omega | (simp <;> omega))) | (with_reducible refine below_drewN ?_ _) | (with_reducible refine Below.drew ?_) | ((with_reducible refine Below.step (by assumption) ?_ ?_); rotate_left; (first | omega | (simp <;> omega)))))
                have zx1 := hb.size
                (try simp at zx1)
                have HG1 : Hid (Grow x1 w.heap.size 61 2 R S.length q (rDeepStep S)) := Lib.hid (Grow.step hb (by repeat (first | (with_reducible exact HG.out) | (with_reducible refine Grow.alloc ?_ _) | (with_reducible refine Grow.drewN ?_ _) | (with_reducible refine Grow.drew ?_) | ((with_reducible refine Grow.far ?_ ?_ _); rotate_left; (first | omega | (simp <;> omega))) | (with_reducible refine Grow.step (by assumption) ?_))))
                clear hb
                go_wp2_with fail
                refine (HTB.out _ (by repeat (first | (with_reducible exact Below.refl _ _) | (with_reducible assumption) | ((with_reducible refine Below.alloc ?_ ?_ _); rotate_left; (first | omega | (simp <;> omega))) | ((with_reducible refine Below.setCell ?_ ?_ _); rotate_left; (first | omega | (simp <;> omega))) | (with_reducible refine below_drewN ?_ _) | (with_reducible refine Below.drew ?_) | ((with_reducible refine Below.step (by assumption) ?_ ?_); rotate_left; (first | omega | (simp <;> omega)))))).mono ?_
                rintro e x2 ⟨rfl, hb⟩
                have bx2 : Below w.heap.size w x2 := (by repeat (first | (with_reducible exact Below.refl _ _) | (with_reducible assumption) | ((with_reducible refine Below.alloc ?_ ?_ _); rotate_left; (first | omega | (simp <;> omega))) | ((with_reducible refine Below.setCell ?_ ?_ _); rotate_left; (first | omega | (simp <;> omega))) | (with_reducible refine below_drewN ?_ _) | (with_reducible refine Below.drew ?_) | ((with_reducible refine Below.step (by assumption) ?_ ?_); rotate_left; (first | omega | (simp <;> omega)))))
                have zx2 := hb.size
                (try simp at zx2)
                have HG2 : Hid (Grow x2 w.heap.size 61 2 R S.length q (rDeepStep S)) := Lib.hid (Grow.step hb (by repeat (first | (with_reducible exact HG1.out) | (with_reducible refine Grow.alloc ?_ _) | (with_reducible refine Grow.drewN ?_ _) | (with_reducible refine Grow.drew ?_) | ((with_reducible refine Grow.far ?_ ?_ _); rotate_left; (first | omega | (simp <;> omega))) | (with_reducible refine Grow.step (by assumption) ?_))))
                clear hb
                have HS2 : Hid (mergeS a b (dn ++ [x]) = S ++ [(x, v)]) := Lib.hid (by rw [HST.out]; unfold mstep; rw [HMW.out, HL.out, if_pos hvl])
                go_wp2_with (at_builtin; refine wpList_app (by rfl) _ _ 37 (by rfl) (w.heap.size) 61 (.agg #[.int .i64 0, .int .i64 0]) 2 16 Try.underlying37 T.infoDeepStep rfl (by decide) (xs := rDeepStep S) (by rfl) ?_ (ys := rDeepStep [(x, v)]) (by rfl) ?_ (rDeepStep_one _) ?_ ?_ ?_ ?_; (exact (by repeat (first | (with_reducible exact HG2.out) | (with_reducible refine Grow.alloc ?_ _) | (with_reducible refine Grow.drewN ?_ _) | (with_reducible refine Grow.drew ?_) | ((with_reducible refine Grow.far ?_ ?_ _); rotate_left; (first | omega | (simp <;> omega))) | (with_reducible refine Grow.step (by assumption) ?_)))); (exact (Grow.rs (base := 0) (n := 1) (c := 1) (by repeat (first | (with_reducible refine Grow.drewN ?_ _) | (with_reducible refine Grow.drew ?_) | (refine Grow.lit_at (by simp) (by rfl) (Nat.zero_le _) (by unfold maxLen; omega)))))); (unfold maxLen; omega); (omega); (first | omega | (simp <;> omega)); rintro A' c' w2 gA; have g1 := gA.1; have g2 := gA.2.1; rw [rDeepStep_snoc] at g1; have HGN := Lib.hid g1; have HBN : Hid (Below w.heap.size w w2) := Lib.hid (Below.trans (by repeat (first | (with_reducible exact Below.refl _ _) | (with_reducible assumption) | ((with_reducible refine Below.alloc ?_ ?_ _); rotate_left; (first | omega | (simp <;> omega))) | ((with_reducible refine Below.setCell ?_ ?_ _); rotate_left; (first | omega | (simp <;> omega))) | (with_reducible refine below_drewN ?_ _) | (with_reducible refine Below.drew ?_) | ((with_reducible refine Below.step (by assumption) ?_ ?_); rotate_left; (first | omega | (simp <;> omega))))) g2); clear gA g1 g2)
                go_roundw
                case rel => exact ⟨i + 1, j + 1, _, _, dn ++ [x], by omega, by omega, by go_num, by go_num, by rw [HS2.out, List.length_append]; rfl, by rw [HS2.out, lastWt_snoc], HN.out, by rw [HS2.out, List.length_append]; exact HGN.out, HBN.out⟩
                case measure => simp [RowKit.intOf]; omega
              · go_wp2_with fail
                go_quiet (fail)
                go_wp2_with fail
                refine (HTA.out _ (by repeat (first | (with_reducible exact Below.refl _ _) | (with_reducible exact HB.out) | (with_reducible assumption) | ((with_reducible refine Below.alloc ?_ ?_ _); rotate_left; (first | omega | (simp <;> omega))) | ((with_reducible refine Below.setCell ?_ ?_ _); rotate_left; (first | omega | (simp <;> omega))) | (with_reducible refine below_drewN ?_ _) | (with_reducible refine Below.drew ?_) | ((with_reducible refine Below.step (by assumption) ?_ ?_); rotate_left; (first | omega | (simp <;> omega)))))).mono ?_
                rintro e x1 ⟨rfl, hb⟩
                have bx1 : Below w.heap.size w x1 := (by repeat (first | (with_reducible exact Below.refl _ _) | (with_reducible exact HB.out) | (with_reducible assumption) | ((with_reducible refine Below.alloc ?_ ?_ _); rotate_left; (first | omega | (simp <;> omega))) | ((with_reducible refine Below.setCell ?_ ?_ _); rotate_left; (first | omega | (simp <;> omega))) | (with_reducible refine below_drewN ?_ _) | (with_reducible refine Below.drew ?_) | ((with_reducible refine Below.step (by assumption) ?_ ?_); rotate_left; (first | omega | (simp <;> omega)))))
                have zx1 := hb.size
                (try simp at zx1)
                have HG1 : Hid (Grow x1 w.heap.size 61 2 R S.length q (rDeepStep S)) := Lib.hid (Grow.step hb (by repeat (first | (with_reducible exact HG.out) | (with_reducible refine Grow.alloc ?_ _) | (with_reducible refine Grow.drewN ?_ _) | (with_reducible refine Grow.drew ?_) | ((with_reducible refine Grow.far ?_ ?_ _); rotate_left; (first | omega | (simp <;> omega))) | (with_reducible refine Grow.step (by assumption) ?_))))
                clear hb
                go_wp2_with fail
                refine (HTB.out _ (by repeat (first | (with_reducible exact Below.refl _ _) | (with_reducible assumption) | ((with_reducible refine Below.alloc ?_ ?_ _); rotate_left; (first | omega | (simp <;> omega))) | ((with_reducible refine Below.setCell ?_ ?_ _); rotate_left; (first | omega | (simp <;> omega))) | (with_reducible refine below_drewN ?_ _) | (with_reducible refine Below.drew ?_) | ((with_reducible refine Below.step (by assumption) ?_ ?_); rotate_left; (first | omega | (simp <;> omega)))))).mono ?_
                rintro e x2 ⟨rfl, hb⟩
                have bx2 : Below w.heap.size w x2 := (by repeat (first | (with_reducible exact Below.refl _ _) | (with_reducible assumption) | ((with_reducible refine Below.alloc ?_ ?_ _); rotate_left; (first | omega | (simp <;> omega))) | ((with_reducible refine Below.setCell ?_ ?_ _); rotate_left; (first | omega | (simp <;> omega))) | (with_reducible refine below_drewN ?_ _) | (with_reducible refine Below.drew ?_) | ((with_reducible refine Below.step (by assumption) ?_ ?_); rotate_left; (first | omega | (simp <;> omega)))))
                have zx2 := hb.size
                (try simp at zx2)
                have HG2 : Hid (Grow x2 w.heap.size 61 2 R S.length q (rDeepStep S)) := Lib.hid (Grow.step hb (by repeat (first | (with_reducible exact HG1.out) | (with_reducible refine Grow.alloc ?_ _) | (with_reducible refine Grow.drewN ?_ _) | (with_reducible refine Grow.drew ?_) | ((with_reducible refine Grow.far ?_ ?_ _); rotate_left; (first | omega | (simp <;> omega))) | (with_reducible refine Grow.step (by assumption) ?_))))
                clear hb
                have HS2 : Hid (mergeS a b (dn ++ [x]) = S) := Lib.hid (by rw [HST.out]; unfold mstep; rw [HMW.out, HL.out, if_neg (Int.not_lt.2 hvl)])
                go_wp2_with fail
                go_roundw
                case rel => exact ⟨i + 1, j + 1, _, _, dn ++ [x], by omega, by omega, by go_num, by go_num, by rw [HS2.out], by rw [HS2.out, HL.out], HN.out, by rw [HS2.out]; exact (by repeat (first | (with_reducible exact HG2.out) | (with_reducible refine Grow.alloc ?_ _) | (with_reducible refine Grow.drewN ?_ _) | (with_reducible refine Grow.drew ?_) | ((with_reducible refine Grow.far ?_ ?_ _); rotate_left; (first | omega | (simp <;> omega))) | (with_reducible refine Grow.step (by assumption) ?_))), (by repeat (first | (with_reducible exact Below.refl _ _) | (with_reducible assumption) | ((with_reducible refine Below.alloc ?_ ?_ _); rotate_left; (first | omega | (simp <;> omega))) | ((with_reducible refine Below.setCell ?_ ?_ _); rotate_left; (first | omega | (simp <;> omega))) | (with_reducible refine below_drewN ?_ _) | (with_reducible refine Below.drew ?_) | ((with_reducible refine Below.step (by assumption) ?_ ?_); rotate_left; (first | omega | (simp <;> omega)))))⟩
                case measure => simp [RowKit.intOf]; omega
            · obtain ⟨ab, ao, rfl, hah, hca⟩ := HRA.out.open_.2.2 (by omega)
              obtain ⟨ka0, _⟩ := rDeepStep_at (l := a) hia
              have ca : wr.cell? ⟨ab, ao + i * 2, none⟩ = some (.int .i64 a[i].1) := by rw [hca _ (by omega), ka0]
              have ia : (i : Int) < a.length := by omega
              have ia' : ¬ (i : Int) = a.length := by omega
              have hga := (validDeep_get HVA.out hia).1
              have d1 : decide ((i : Int) < (a.length : Int)) = true := by simpa using ia
              clear hca ka0
              obtain ⟨bb, bo, rfl, hbh, hcb⟩ := HRB.out.open_.2.2 (by omega)
              obtain ⟨kb0, _⟩ := rDeepStep_at (l := b) hjb
              have cb : wr.cell? ⟨bb, bo + j * 2, none⟩ = some (.int .i64 b[j].1) := by rw [hcb _ (by omega), kb0]
              have ib : (j : Int) < b.length := by omega
              have ib' : ¬ (j : Int) = b.length := by omega
              have hgb := (validDeep_get HVB.out hjb).1
              have e1 : ((j : Int) == (b.length : Int)) = false := by simpa using ib'
              clear hcb kb0
              have HN := Lib.hid (HM.out.gt hia hjb hxy)
              generalize hx : a[i].1 = x at *
              generalize hy : b[j].1 = y at *
              clear hx hy
              have x1 : ¬ x ≤ y := by omega
              have x0 : decide (x ≤ y) = false := by simpa using x1
              have x2 : ¬ x = y := by omega
              have x3 : (x == y) = false := by simpa using x2
              obtain ⟨p, hp⟩ : ∃ p, lastW (upto y) a = p := ⟨_, rfl⟩
              obtain ⟨r, hr⟩ : ∃ r, lastW (upto y) b = r := ⟨_, rfl⟩
              have hpr : 0 ≤ p ∧ p ≤ 65536 := by rw [← hp]; exact upto_rng HVA.out y
              have hrr : 0 ≤ r ∧ r ≤ 65536 := by rw [← hr]; exact upto_rng HVB.out y
              have hpq := prod_rng hpr hrr
              obtain ⟨v, hv⟩ : ∃ v, (p * r).tdiv 65536 = v := ⟨_, rfl⟩
              have HMW : Hid (mwF a b y = v) := Lib.hid (by unfold mwF; rw [hp, hr, hv])
              have hvr : 0 ≤ v ∧ v ≤ 65536 := by have := mwF_rng HVA.out HVB.out y; rw [HMW.out] at this; exact this
              have wpr : -9223372036854775808 ≤ p * r ∧ p * r ≤ 9223372036854775807 := by omega
              have wzr : -9223372036854775808 ≤ y + 1 ∧ y + 1 ≤ 9223372036854775807 := by omega
              have wm : IntKind.i64.wrap (p * r) = p * r := IntWalk.i64_in _ wpr
              have wz : IntKind.i64.wrap (y + 1) = y + 1 := IntWalk.i64_in _ wzr
              clear wpr wzr
              have HTA := Lib.hid (HTA0.out y p hp)
              have HTB := Lib.hid (HTB0.out y r hr)
              clear hp hr hpr hrr
              by_cases hvl : v < L
              · go_wp2_with fail
                go_quiet (fail)
                go_wp2_with fail
                refine (HTA.out _ (by repeat (first | (with_reducible exact Below.refl _ _) | (with_reducible exact HB.out) | (with_reducible assumption) | ((with_reducible refine Below.alloc ?_ ?_ _); rotate_left; (first | omega | (simp <;> omega))) | ((with_reducible refine Below.setCell ?_ ?_ _); rotate_left; (first | omega | (simp <;> omega))) | (with_reducible refine below_drewN ?_ _) | (with_reducible refine Below.drew ?_) | ((with_reducible refine Below.step (by assumption) ?_ ?_); rotate_left; (first | omega | (simp <;> omega)))))).mono ?_
                rintro e x1 ⟨rfl, hb⟩
                have bx1 : Below w.heap.size w x1 := (by repeat (first | (with_reducible exact Below.refl _ _) | (with_reducible exact HB.out) | (with_reducible assumption) | ((with_reducible refine Below.alloc ?_ ?_ _); rotate_left; (first | omega | (simp <;> omega))) | ((with_reducible refine Below.setCell ?_ ?_ _); rotate_left; (first | omega | (simp <;> omega))) | (with_reducible refine below_drewN ?_ _) | (with_reducible refine Below.drew ?_) | ((with_reducible refine Below.step (by assumption) ?_ ?_); rotate_left; (first | omega | (simp <;> omega)))))
                have zx1 := hb.size
                (try simp at zx1)
                have HG1 : Hid (Grow x1 w.heap.size 61 2 R S.length q (rDeepStep S)) := Lib.hid (Grow.step hb (by repeat (first | (with_reducible exact HG.out) | (with_reducible refine Grow.alloc ?_ _) | (with_reducible refine Grow.drewN ?_ _) | (with_reducible refine Grow.drew ?_) | ((with_reducible refine Grow.far ?_ ?_ _); rotate_left; (first | omega | (simp <;> omega))) | (with_reducible refine Grow.step (by assumption) ?_))))
                clear hb
                go_wp2_with fail
                refine (HTB.out _ (by repeat (first | (with_reducible exact Below.refl _ _) | (with_reducible assumption) | ((with_reducible refine Below.alloc ?_ ?_ _); rotate_left; (first | omega | (simp <;> omega))) | ((with_reducible refine Below.setCell ?_ ?_ _); rotate_left; (first | omega | (simp <;> omega))) | (with_reducible refine below_drewN ?_ _) | (with_reducible refine Below.drew ?_) | ((with_reducible refine Below.step (by assumption) ?_ ?_); rotate_left; (first | omega | (simp <;> omega)))))).mono ?_
                rintro e x2 ⟨rfl, hb⟩
                have bx2 : Below w.heap.size w x2 := (by repeat (first | (with_reducible exact Below.refl _ _) | (with_reducible assumption) | ((with_reducible refine Below.alloc ?_ ?_ _); rotate_left; (first | omega | (simp <;> omega))) | ((with_reducible refine Below.setCell ?_ ?_ _); rotate_left; (first | omega | (simp <;> omega))) | (with_reducible refine below_drewN ?_ _) | (with_reducible refine Below.drew ?_) | ((with_reducible refine Below.step (by assumption) ?_ ?_); rotate_left; (first | omega | (simp <;> omega)))))
                have zx2 := hb.size
                (try simp at zx2)
                have HG2 : Hid (Grow x2 w.heap.size 61 2 R S.length q (rDeepStep S)) := Lib.hid (Grow.step hb (by repeat (first | (with_reducible exact HG1.out) | (with_reducible refine Grow.alloc ?_ _) | (with_reducible refine Grow.drewN ?_ _) | (with_reducible refine Grow.drew ?_) | ((with_reducible refine Grow.far ?_ ?_ _); rotate_left; (first | omega | (simp <;> omega))) | (with_reducible refine Grow.step (by assumption) ?_))))
                clear hb
                have HS2 : Hid (mergeS a b (dn ++ [y]) = S ++ [(y, v)]) := Lib.hid (by rw [HST.out]; unfold mstep; rw [HMW.out, HL.out, if_pos hvl])
                go_wp2_with (at_builtin; refine wpList_app (by rfl) _ _ 37 (by rfl) (w.heap.size) 61 (.agg #[.int .i64 0, .int .i64 0]) 2 16 Try.underlying37 T.infoDeepStep rfl (by decide) (xs := rDeepStep S) (by rfl) ?_ (ys := rDeepStep [(y, v)]) (by rfl) ?_ (rDeepStep_one _) ?_ ?_ ?_ ?_; (exact (by repeat (first | (with_reducible exact HG2.out) | (with_reducible refine Grow.alloc ?_ _) | (with_reducible refine Grow.drewN ?_ _) | (with_reducible refine Grow.drew ?_) | ((with_reducible refine Grow.far ?_ ?_ _); rotate_left; (first | omega | (simp <;> omega))) | (with_reducible refine Grow.step (by assumption) ?_)))); (exact (Grow.rs (base := 0) (n := 1) (c := 1) (by repeat (first | (with_reducible refine Grow.drewN ?_ _) | (with_reducible refine Grow.drew ?_) | (refine Grow.lit_at (by simp) (by rfl) (Nat.zero_le _) (by unfold maxLen; omega)))))); (unfold maxLen; omega); (omega); (first | omega | (simp <;> omega)); rintro A' c' w2 gA; have g1 := gA.1; have g2 := gA.2.1; rw [rDeepStep_snoc] at g1; have HGN := Lib.hid g1; have HBN : Hid (Below w.heap.size w w2) := Lib.hid (Below.trans (by repeat (first | (with_reducible exact Below.refl _ _) | (with_reducible assumption) | ((with_reducible refine Below.alloc ?_ ?_ _); rotate_left; (first | omega | (simp <;> omega))) | ((with_reducible refine Below.setCell ?_ ?_ _); rotate_left; (first | omega | (simp <;> omega))) | (with_reducible refine below_drewN ?_ _) | (with_reducible refine Below.drew ?_) | ((with_reducible refine Below.step (by assumption) ?_ ?_); rotate_left; (first | omega | (simp <;> omega))))) g2); clear gA g1 g2)
                go_roundw
                case rel => exact ⟨i, j + 1, _, _, dn ++ [y], by omega, by omega, by go_num, by go_num, by rw [HS2.out, List.length_append]; rfl, by rw [HS2.out, lastWt_snoc], HN.out, by rw [HS2.out, List.length_append]; exact HGN.out, HBN.out⟩
                case measure => simp [RowKit.intOf]; omega
              · go_wp2_with fail
                go_quiet (fail)
                go_wp2_with fail
                refine (HTA.out _ (by repeat (first | (with_reducible exact Below.refl _ _) | (with_reducible exact HB.out) | (with_reducible assumption) | ((with_reducible refine Below.alloc ?_ ?_ _); rotate_left; (first | omega | (simp <;> omega))) | ((with_reducible refine Below.setCell ?_ ?_ _); rotate_left; (first | omega | (simp <;> omega))) | (with_reducible refine below_drewN ?_ _) | (with_reducible refine Below.drew ?_) | ((with_reducible refine Below.step (by assumption) ?_ ?_); rotate_left; (first | omega | (simp <;> omega)))))).mono ?_
                rintro e x1 ⟨rfl, hb⟩
                have bx1 : Below w.heap.size w x1 := (by repeat (first | (with_reducible exact Below.refl _ _) | (with_reducible exact HB.out) | (with_reducible assumption) | ((with_reducible refine Below.alloc ?_ ?_ _); rotate_left; (first | omega | (simp <;> omega))) | ((with_reducible refine Below.setCell ?_ ?_ _); rotate_left; (first | omega | (simp <;> omega))) | (with_reducible refine below_drewN ?_ _) | (with_reducible refine Below.drew ?_) | ((with_reducible refine Below.step (by assumption) ?_ ?_); rotate_left; (first | omega | (simp <;> omega)))))
                have zx1 := hb.size
                (try simp at zx1)
                have HG1 : Hid (Grow x1 w.heap.size 61 2 R S.length q (rDeepStep S)) := Lib.hid (Grow.step hb (by repeat (first | (with_reducible exact HG.out) | (with_reducible refine Grow.alloc ?_ _) | (with_reducible refine Grow.drewN ?_ _) | (with_reducible refine Grow.drew ?_) | ((with_reducible refine Grow.far ?_ ?_ _); rotate_left; (first | omega | (simp <;> omega))) | (with_reducible refine Grow.step (by assumption) ?_))))
                clear hb
                go_wp2_with fail
                refine (HTB.out _ (by repeat (first | (with_reducible exact Below.refl _ _) | (with_reducible assumption) | ((with_reducible refine Below.alloc ?_ ?_ _); rotate_left; (first | omega | (simp <;> omega))) | ((with_reducible refine Below.setCell ?_ ?_ _); rotate_left; (first | omega | (simp <;> omega))) | (with_reducible refine below_drewN ?_ _) | (with_reducible refine Below.drew ?_) | ((with_reducible refine Below.step (by assumption) ?_ ?_); rotate_left; (first | omega | (simp <;> omega)))))).mono ?_
                rintro e x2 ⟨rfl, hb⟩
                have bx2 : Below w.heap.size w x2 := (by repeat (first | (with_reducible exact Below.refl _ _) | (with_reducible assumption) | ((with_reducible refine Below.alloc ?_ ?_ _); rotate_left; (first | omega | (simp <;> omega))) | ((with_reducible refine Below.setCell ?_ ?_ _); rotate_left; (first | omega | (simp <;> omega))) | (with_reducible refine below_drewN ?_ _) | (with_reducible refine Below.drew ?_) | ((with_reducible refine Below.step (by assumption) ?_ ?_); rotate_left; (first | omega | (simp <;> omega)))))
                have zx2 := hb.size
                (try simp at zx2)
                have HG2 : Hid (Grow x2 w.heap.size 61 2 R S.length q (rDeepStep S)) := Lib.hid (Grow.step hb (by repeat (first | (with_reducible exact HG1.out) | (with_reducible refine Grow.alloc ?_ _) | (with_reducible refine Grow.drewN ?_ _) | (with_reducible refine Grow.drew ?_) | ((with_reducible refine Grow.far ?_ ?_ _); rotate_left; (first | omega | (simp <;> omega))) | (with_reducible refine Grow.step (by assumption) ?_))))
                clear hb
                have HS2 : Hid (mergeS a b (dn ++ [y]) = S) := Lib.hid (by rw [HST.out]; unfold mstep; rw [HMW.out, HL.out, if_neg (Int.not_lt.2 hvl)])
                go_wp2_with fail
                go_roundw
                case rel => exact ⟨i, j + 1, _, _, dn ++ [y], by omega, by omega, by go_num, by go_num, by rw [HS2.out], by rw [HS2.out, HL.out], HN.out, by rw [HS2.out]; exact (by repeat (first | (with_reducible exact HG2.out) | (with_reducible refine Grow.alloc ?_ _) | (with_reducible refine Grow.drewN ?_ _) | (with_reducible refine Grow.drew ?_) | ((with_reducible refine Grow.far ?_ ?_ _); rotate_left; (first | omega | (simp <;> omega))) | (with_reducible refine Grow.step (by assumption) ?_))), (by repeat (first | (with_reducible exact Below.refl _ _) | (with_reducible assumption) | ((with_reducible refine Below.alloc ?_ ?_ _); rotate_left; (first | omega | (simp <;> omega))) | ((with_reducible refine Below.setCell ?_ ?_ _); rotate_left; (first | omega | (simp <;> omega))) | (with_reducible refine below_drewN ?_ _) | (with_reducible refine Below.drew ?_) | ((with_reducible refine Below.step (by assumption) ?_ ?_); rotate_left; (first | omega | (simp <;> omega)))))⟩
                case measure => simp [RowKit.intOf]; omega
end Go.Proofs.Ytaeajeclbcodeaa
