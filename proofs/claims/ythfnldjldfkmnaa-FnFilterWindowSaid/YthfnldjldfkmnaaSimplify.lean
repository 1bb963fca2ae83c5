/- SimplifyDeep of the reference and of the program. -/
import Derived.Test.YthfnldjldfkmnaaDeepV
import Derived.Test.YthfnldjldfkmnaaMade
import Derived.Deep.RegionHeld3
namespace Go.Proofs.Ythfnldjldfkmnaa
open Go.RowKit
set_option linter.unusedVariables false
theorem validDeep_get {l : List EDeepStep} (h : validDeep l = true) {k : Nat} (hk : k < l.length) : (-1000000 ≤ l[k].1 ∧ l[k].1 ≤ 1000000) ∧ 0 ≤ l[k].2 ∧ l[k].2 ≤ 65535 := by
  have hs : stepB l k = true := by
    cases hb : stepB l k
    · rw [validDeep_false hk hb] at h; cases h
    · rfl
  have hi : inD l[k] = true := by
    cases hd : inD l[k]
    · rw [stepB_in hk hd] at hs; cases hs
    · rfl
  simp only [inD, Bool.and_eq_true] at hi
  exact ⟨inB_true hi.1, inB_true hi.2⟩
theorem validDeep_len {l : List EDeepStep} (h : validDeep l = true) : l.length ≤ 64 := by
  unfold validDeep at h
  simp only [Bool.and_eq_true, decide_eq_true_eq] at h
  exact h.1
/-- The weight behind the last step. -/
def lastWt (o : List EDeepStep) : Int := match o.getLast? with | none => 65536 | some x => x.2
theorem lastWt_snoc (o : List EDeepStep) (x : EDeepStep) : lastWt (o ++ [x]) = x.2 := by simp [lastWt]
theorem lastWt_at {o : List EDeepStep} (h : 0 < o.length) : lastWt o = (o[o.length - 1]'(by omega)).2 := by
  unfold lastWt
  rw [List.getLast?_eq_getElem?, List.getElem?_eq_getElem (by omega)]
theorem lastWt_nil {o : List EDeepStep} (h : o.length = 0) : lastWt o = 65536 := by
  have := List.eq_nil_of_length_eq_zero h; subst this; rfl
def simpStep (t : Int) (o : List EDeepStep) (x : EDeepStep) : List EDeepStep := if t < lastWt o - x.2 then o ++ [x] else o
def simpTo (t : Int) (l : List EDeepStep) (k : Nat) : List EDeepStep := (l.take k).foldl (simpStep t) []
theorem simpTo_succ {t : Int} {l : List EDeepStep} {k : Nat} (h : k < l.length) : simpTo t l (k + 1) = simpStep t (simpTo t l k) l[k] := by
  unfold simpTo; rw [List.take_succ_eq_append_getElem h, List.foldl_append]; rfl
theorem simpTo_rng {t : Int} {l : List EDeepStep} (hv : validDeep l = true) : ∀ k, k ≤ l.length → (simpTo t l k).length ≤ k ∧ 0 ≤ lastWt (simpTo t l k) ∧ lastWt (simpTo t l k) ≤ 65536
  | 0, _ => by simp [simpTo, lastWt]
  | k + 1, hk => by
    have ih := simpTo_rng (t := t) hv k (by omega)
    have hx := validDeep_get hv (k := k) (by omega)
    rw [simpTo_succ (by omega)]
    have hx2 := hx.2
    clear hx
    unfold simpStep
    split
    · rw [lastWt_snoc, List.length_append]
      exact ⟨by simp; omega, hx2.1, by omega⟩
    · exact ⟨by omega, ih.2⟩
def simpF (l : List EDeepStep) (t : Int) : List EDeepStep := if validDeep l && inB t 0 65536 then simpTo t l l.length else []
theorem simpF_no {l : List EDeepStep} {t : Int} (h : (validDeep l && inB t 0 65536) = false) : simpF l t = [] := by unfold simpF; rw [h]; rfl
theorem simpF_yes {l : List EDeepStep} {t : Int} (h : (validDeep l && inB t 0 65536) = true) : simpF l t = simpTo t l l.length := by unfold simpF; rw [h]; rfl
theorem rDeepStep_one (l : List EDeepStep) : ∀ u ∈ rDeepStep l, u.oneCell' = true := by
  intro u hu
  obtain ⟨x, _, hx⟩ := List.mem_flatMap.1 hu
  simp only [cDeepStep, List.mem_cons, List.not_mem_nil, or_false] at hx
  rcases hx with rfl | rfl <;> rfl
theorem rDeepStep_snoc (l : List EDeepStep) (x : EDeepStep) : rDeepStep l ++ rDeepStep [x] = rDeepStep (l ++ [x]) := by simp [rDeepStep, rowOf]
theorem T.infoDeepStep : (Try.prog.info? 161).map (fun i => (i.zero, i.size, i.bytes)) = some (some (.agg #[.int .i64 0, .int .i64 0]), 2, 16) := by kernel_rfl
set_option maxHeartbeats 1000000 in
theorem I_lastWeight {A : Option Addr} {n c : Nat} {o : List EDeepStep} (w : World) (hn : n = o.length) (h : RS w 2 A n c (rDeepStep o)) :
    Calls Try.prog 127 #[.slice A n c] w fun e w' => e = .returned (.int .i64 (lastWt o)) ∧ w = w' := by
  have hl := h.len
  unfold maxLen at hl
  subst hn
  obtain ⟨_, _, hr⟩ := h.open_
  clear h
  rcases Nat.eq_zero_or_pos o.length with h0 | h0
  · have HE := Lib.hid (lastWt_nil h0)
    have hz : ((o.length : Int) == 0) = true := by simp [h0]
    clear hr h0
    go_enter Try.func127, Try.ntmps127
    go_wp2
    go_ret
    exact ⟨ret_int HE.out.symm, rfl⟩
  · obtain ⟨b, off, rfl, hb, hcell⟩ := hr h0
    have HE := Lib.hid (lastWt_at h0)
    have hz : ((o.length : Int) == 0) = false := by rw [beq_eq_false_iff_ne]; omega
    obtain ⟨_, q1⟩ := rDeepStep_at (l := o) (k := o.length - 1) (by omega)
    have d1 : w.cell? ⟨b, off + (o.length - 1) * 2 + 1, none⟩ = some (.int .i64 (o[o.length - 1]'(by omega)).2) := by rw [show off + (o.length - 1) * 2 + 1 = off + ((o.length - 1) * 2 + 1) by omega, hcell _ (by omega), q1]
    have hx : ((o.length : Int) - 1).toNat = o.length - 1 := by omega
    clear hcell q1
    go_enter Try.func127, Try.ntmps127
    go_wp2
    go_ret
    exact ⟨ret_int HE.out.symm, rfl⟩
set_option maxHeartbeats 4000000 in
theorem I_SimplifyDeep {A : Option Addr} {c : Nat} {l : List EDeepStep} {t : Int} (w : World) (h : RS w 2 A l.length c (rDeepStep l)) :
    Calls Try.prog 48 #[.slice A l.length c, .int .i64 t] w (MadeRow 161 2 (simpF l t).length (rDeepStep (simpF l t)) w) := by
  have hlen := h.len
  unfold maxLen at hlen
  have H0 := Lib.hid h
  clear h
  cases hok : (validDeep l && inB t 0 65536)
  case false =>
    have HV : Hid (MadeRow 161 2 (simpF l t).length (rDeepStep (simpF l t)) w = MadeRow 161 2 0 [] w) := by show _ = _; rw [simpF_no hok]; rfl
    have hw : validDeep l = false ∨ (validDeep l = true ∧ inB t 0 65536 = false) := by cases h1 : validDeep l <;> simp_all
    clear hok
    rcases hw with h1 | ⟨h1, h2⟩
    all_goals
      go_enter Try.func48, Try.ntmps48
      go_wp2_with (first | (go_at_call 46; refine (I_IsValidDeep _ (RS.step (by repeat (first | (with_reducible exact Below.refl _ _) | (with_reducible assumption) | ((with_reducible refine Below.alloc ?_ ?_ _); rotate_left; (first | omega | (simp <;> omega))) | ((with_reducible refine Below.setCell ?_ ?_ _); rotate_left; (first | omega | (simp <;> omega))) | (with_reducible refine below_drewN ?_ _) | (with_reducible refine Below.drew ?_) | ((with_reducible refine Below.step (by assumption) ?_ ?_); rotate_left; (first | omega | (simp <;> omega))))) H0.out)).mono ?_; rintro e w' ⟨rfl, hb⟩; have hz := hb.size; (try simp at hz)) | (go_at_call 105; refine (I_within _ _ _ _).mono ?_; rintro e w' ⟨rfl, rfl⟩))
      rw [HV.out]
      go_ret
      exact MadeRow.none_ _ _ _ (by repeat (first | (with_reducible exact Below.refl _ _) | (with_reducible assumption) | ((with_reducible refine Below.alloc ?_ ?_ _); rotate_left; (first | omega | (simp <;> omega))) | ((with_reducible refine Below.setCell ?_ ?_ _); rotate_left; (first | omega | (simp <;> omega))) | (with_reducible refine below_drewN ?_ _) | (with_reducible refine Below.drew ?_) | ((with_reducible refine Below.step (by assumption) ?_ ?_); rotate_left; (first | omega | (simp <;> omega)))))
  case true =>
    have HV : Hid (MadeRow 161 2 (simpF l t).length (rDeepStep (simpF l t)) w = MadeRow 161 2 (simpTo t l l.length).length (rDeepStep (simpTo t l l.length)) w) := by show _ = _; rw [simpF_yes hok]
    simp only [Bool.and_eq_true] at hok
    obtain ⟨h1, h2⟩ := hok
    obtain ⟨t1, t2⟩ := inB_true h2
    have h64 := validDeep_len h1
    have HR1 := Lib.hid (simpTo_rng (t := t) h1)
    have HG := Lib.hid (fun k hk => validDeep_get h1 (k := k) hk)
    go_enter Try.func48, Try.ntmps48
    go_wp2_with fail
    refine (I_IsValidDeep _ (RS.step (by repeat (first | (with_reducible exact Below.refl _ _) | (with_reducible assumption) | ((with_reducible refine Below.alloc ?_ ?_ _); rotate_left; (first | omega | (simp <;> omega))) | ((with_reducible refine Below.setCell ?_ ?_ _); rotate_left; (first | omega | (simp <;> omega))) | (with_reducible refine below_drewN ?_ _) | (with_reducible refine Below.drew ?_) | ((with_reducible refine Below.step (by assumption) ?_ ?_); rotate_left; (first | omega | (simp <;> omega))))) H0.out)).mono ?_
    rintro e w1 ⟨rfl, hb⟩
    have hz := hb.size
    (try simp at hz)
    have hB1 : Below w.heap.size w w1 := (by repeat (first | (with_reducible exact Below.refl _ _) | (with_reducible assumption) | ((with_reducible refine Below.alloc ?_ ?_ _); rotate_left; (first | omega | (simp <;> omega))) | ((with_reducible refine Below.setCell ?_ ?_ _); rotate_left; (first | omega | (simp <;> omega))) | (with_reducible refine below_drewN ?_ _) | (with_reducible refine Below.drew ?_) | ((with_reducible refine Below.step (by assumption) ?_ ?_); rotate_left; (first | omega | (simp <;> omega)))))
    have HB1 := Lib.hid (Below.alloc hB1 hB1.size (.cells #[] 161))
    have HG0 : Hid (Grow (w1.alloc (.cells #[] 161)) w.heap.size 161 2 (some ⟨w1.heap.size, 0, none⟩) 0 0 []) := Grow.lit w1 #[] 0 rfl hB1.size (Nat.zero_le _)
    clear hb hB1
    go_wp2_with (go_at_call 105; refine (I_within _ _ _ _).mono ?_; rintro e w' ⟨rfl, rfl⟩)
    go_loopw [5, 7, 19] (fun o _ i wr => ∃ (k : Nat) (B : Option Addr) (n d : Nat), k ≤ l.length ∧ i = .int .i64 k ∧ o = .slice B n d ∧ Grow wr w.heap.size 161 2 B n d (rDeepStep (simpTo t l k)) ∧ Below w.heap.size w wr) (fun _ _ i _ => l.length - (intOf i).toNat)
    case atStart => exact ⟨0, _, _, _, Nat.zero_le _, rfl, rfl, HG0.out, HB1.out⟩
    case round =>
      obtain ⟨k, B, n, d, hk, rfl, rfl, hg, hb⟩ := hrel
      obtain ⟨k1, k2, k3⟩ := HR1.out k hk
      have hn : n ≤ k := by have := hg.len; rw [rDeepStep_len] at this; omega
      obtain rfl : n = (simpTo t l k).length := by have := hg.len; rw [rDeepStep_len] at this; omega
      have HGr := Lib.hid hg
      have HB := Lib.hid hb
      have HR := Lib.hid (RS.step hb H0.out)
      have hsz := hb.size
      clear hg hb
      by_cases hlt : k < l.length
      · obtain ⟨b, off, rfl, hbh, hcell⟩ := HR.out.open_.2.2 (by omega)
        obtain ⟨q0, q1⟩ := rDeepStep_at (l := l) hlt
        have d0 : wr.cell? ⟨b, off + k * 2, none⟩ = some (.int .i64 l[k].1) := by rw [hcell _ (by omega), q0]
        have d1 : wr.cell? ⟨b, off + k * 2 + 1, none⟩ = some (.int .i64 l[k].2) := by rw [show off + k * 2 + 1 = off + (k * 2 + 1) by omega, hcell _ (by omega), q1]
        have i1 : (0 : Int) ≤ k := by omega
        have i2 : (k : Int) < l.length := by omega
        obtain ⟨_, x1, x2⟩ := HG.out k hlt
        have HS := Lib.hid (simpTo_succ (t := t) hlt)
        clear hcell q0 q1
        generalize hx : l[k] = x at *
        have HX := Lib.hid hx
        clear hx
        by_cases hd : t < lastWt (simpTo t l k) - x.2
        · have HS2 : Hid (simpTo t l (k + 1) = simpTo t l k ++ [x]) := by show _ = _; rw [HS.out]; unfold simpStep; rw [if_pos hd]
          have hp : IntKind.i64.wrap (lastWt (simpTo t l k) - x.2) = lastWt (simpTo t l k) - x.2 := IntWalk.i64_in _ (by omega)
          go_wp2_with fail
          go_region_held3 (fun w' => w'.cell? ⟨wr.heap.size, 1, none⟩ = some (.int .i64 x.2)) (first | go_keep | ((try dsimp only); go_simp)) ((go_at_call 127; refine (I_lastWeight _ rfl (RS.step (by repeat (first | (with_reducible exact Below.refl _ _) | (with_reducible assumption) | ((with_reducible refine Below.alloc ?_ ?_ _); rotate_left; (first | omega | (simp <;> omega))) | ((with_reducible refine Below.setCell ?_ ?_ _); rotate_left; (first | omega | (simp <;> omega))) | (with_reducible refine below_drewN ?_ _) | (with_reducible refine Below.drew ?_) | ((with_reducible refine Below.step (by assumption) ?_ ?_); rotate_left; (first | omega | (simp <;> omega))))) (Grow.rs HGr.out))).mono ?_; rintro e w' ⟨rfl, rfl⟩))
          clear hp
          go_wp2_with (at_builtin; refine wpList_app (by rfl) _ _ 79 (by rfl) (w.heap.size) 161 (.agg #[.int .i64 0, .int .i64 0]) 2 16 Try.underlying79 T.infoDeepStep rfl (by decide) (xs := rDeepStep (simpTo t l k)) (by rfl) ?_ (ys := rDeepStep [x]) (by rfl) ?_ (rDeepStep_one _) ?_ ?_ ?_ ?_; (exact (by repeat (first | (with_reducible exact HGr.out) | (with_reducible refine Grow.alloc ?_ _) | (with_reducible refine Grow.drewN ?_ _) | (with_reducible refine Grow.drew ?_) | ((with_reducible refine Grow.far ?_ ?_ _); rotate_left; (first | omega | (simp <;> omega))) | (with_reducible refine Grow.step (by assumption) ?_)))); (exact (Grow.rs (base := 0) (n := 1) (c := 1) (by repeat (first | (with_reducible refine Grow.drewN ?_ _) | (with_reducible refine Grow.drew ?_) | (refine Grow.lit_at (by simp) (by rfl) (Nat.zero_le _) (by unfold maxLen; omega)))))); (unfold maxLen; omega); (omega); (first | omega | (simp <;> omega)); rintro A' c' w2 gA; have g1 := gA.1; have g2 := gA.2.1; rw [rDeepStep_snoc] at g1; have HG1 := Lib.hid g1; have hB2 : Below w.heap.size w w2 := Below.trans (by repeat (first | (with_reducible exact Below.refl _ _) | (with_reducible exact HB.out) | (with_reducible assumption) | ((with_reducible refine Below.alloc ?_ ?_ _); rotate_left; (first | omega | (simp <;> omega))) | ((with_reducible refine Below.setCell ?_ ?_ _); rotate_left; (first | omega | (simp <;> omega))) | (with_reducible refine below_drewN ?_ _) | (with_reducible refine Below.drew ?_) | ((with_reducible refine Below.step (by assumption) ?_ ?_); rotate_left; (first | omega | (simp <;> omega))))) g2; have HB2 := Lib.hid hB2; have hgx := (Appended.far gA (b := wr.heap.size) (by simp; omega) (fun e => by have := HGr.out.lt _ e; omega)).1;  clear g1 g2 gA hB2)
          go_roundw
          case rel => exact ⟨k + 1, _, _, _, by omega, by go_num, rfl, by rw [HS2.out]; exact HG1.out, HB2.out⟩
          case measure => simp [intOf]; omega
        · have HS2 : Hid (simpTo t l (k + 1) = simpTo t l k) := by show _ = _; rw [HS.out]; unfold simpStep; rw [if_neg hd]
          have hp : IntKind.i64.wrap (lastWt (simpTo t l k) - x.2) = lastWt (simpTo t l k) - x.2 := IntWalk.i64_in _ (by omega)
          go_wp2_with fail
          go_region_held3 (fun w' => w'.cell? ⟨wr.heap.size, 1, none⟩ = some (.int .i64 x.2)) (first | go_keep | ((try dsimp only); go_simp)) ((go_at_call 127; refine (I_lastWeight _ rfl (RS.step (by repeat (first | (with_reducible exact Below.refl _ _) | (with_reducible assumption) | ((with_reducible refine Below.alloc ?_ ?_ _); rotate_left; (first | omega | (simp <;> omega))) | ((with_reducible refine Below.setCell ?_ ?_ _); rotate_left; (first | omega | (simp <;> omega))) | (with_reducible refine below_drewN ?_ _) | (with_reducible refine Below.drew ?_) | ((with_reducible refine Below.step (by assumption) ?_ ?_); rotate_left; (first | omega | (simp <;> omega))))) (Grow.rs HGr.out))).mono ?_; rintro e w' ⟨rfl, rfl⟩))
          clear hp
          go_wp2
          go_roundw
          case rel => exact ⟨k + 1, _, _, _, by omega, by go_num, rfl, by rw [HS2.out]; exact (by repeat (first | (with_reducible exact HGr.out) | (with_reducible refine Grow.alloc ?_ _) | (with_reducible refine Grow.drewN ?_ _) | (with_reducible refine Grow.drew ?_) | ((with_reducible refine Grow.far ?_ ?_ _); rotate_left; (first | omega | (simp <;> omega))) | (with_reducible refine Grow.step (by assumption) ?_))), (by repeat (first | (with_reducible exact Below.refl _ _) | (with_reducible exact HB.out) | (with_reducible assumption) | ((with_reducible refine Below.alloc ?_ ?_ _); rotate_left; (first | omega | (simp <;> omega))) | ((with_reducible refine Below.setCell ?_ ?_ _); rotate_left; (first | omega | (simp <;> omega))) | (with_reducible refine below_drewN ?_ _) | (with_reducible refine Below.drew ?_) | ((with_reducible refine Below.step (by assumption) ?_ ?_); rotate_left; (first | omega | (simp <;> omega)))))⟩
          case measure => simp [intOf]; omega
      · obtain rfl : k = l.length := by omega
        go_wp2
        rw [HV.out]
        go_ret
        exact Grow.made HGr.out (Nat.le_refl _) HB.out
end Go.Proofs.Ythfnldjldfkmnaa
