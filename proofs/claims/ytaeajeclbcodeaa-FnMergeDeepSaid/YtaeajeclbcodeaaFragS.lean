/- Fragments in the reference: order, insertion, cut. -/
import Derived.Test.YtaeajeclbcodeaaDeepP
import Derived.Test.YtaeajeclbcodeaaMade
import Derived.BigQuiet
import Derived.Deep.QuietTactic
import Derived.Deep.RegionHeld3
namespace Go.Proofs.Ytaeajeclbcodeaa
open Go.RowKit
set_option linter.unusedVariables false
set_option maxRecDepth 100000
abbrev vFrag (x : EFragment) : Value := .agg #[.int .i64 x.1, .int .i64 x.2.1, .int .i64 x.2.2.1, .int .i64 x.2.2.2.1, .int .i64 x.2.2.2.2]
theorem rDeepStep_app (a b : List EDeepStep) : rDeepStep (a ++ b) = rDeepStep a ++ rDeepStep b := by simp [rDeepStep, rowOf]
theorem rDeepStep_take (l : List EDeepStep) (k : Nat) : rDeepStep (l.take k) = (rDeepStep l).take (k * 2) := by
  rcases Nat.lt_or_ge k l.length with h | h
  · have e : (rDeepStep (l.take k)).length = k * 2 := by rw [rDeepStep_len, List.length_take]; omega
    have h2 : rDeepStep l = rDeepStep (l.take k) ++ rDeepStep (l.drop k) := by rw [← rDeepStep_app, List.take_append_drop]
    rw [h2, ← e, List.take_left]
  · rw [List.take_of_length_le h, List.take_of_length_le (by rw [rDeepStep_len]; omega)]
/-- A first part, and a last part, of a row of fragments. -/
theorem frag_head {w : World} {b o c k : Nat} {l : List EFragment} (h : RS w 5 (some ⟨b, o, none⟩) l.length c (rFragment l)) (hk : k ≤ l.length) : RS w 5 (some ⟨b, o, none⟩) k c (rFragment (l.take k)) := by
  have h1 := h.open_
  have := RS.part h rfl 0 k c (Nat.zero_le _) hk (by omega) h1.2.1
  rw [rFragment_take]
  simpa using this
theorem frag_tail {w : World} {b o c k : Nat} {l : List EFragment} (h : RS w 5 (some ⟨b, o, none⟩) l.length c (rFragment l)) (hk : k ≤ l.length) : RS w 5 (some ⟨b, o + k * 5, none⟩) (l.length - k) (c - k) (rFragment (l.drop k)) := by
  have h1 := h.open_
  have := RS.part h rfl k l.length (c - k) hk (Nat.le_refl _) (by omega) (by have := h1.2.1; omega)
  rw [rFragment_drop l k hk]
  rwa [List.take_of_length_le (by rw [List.length_drop, rFragment_len, ← Nat.sub_mul]; exact Nat.le_refl _)] at this
theorem frag_none {w : World} {A : Option Addr} {d k : Nat} {l : List EFragment} (hk : l.length ≤ k) (hd : d ≤ maxLen) : RS w 5 A 0 d (rFragment (l.drop k)) := by
  rw [List.drop_of_length_le hk]
  exact ⟨rfl, _, _, rfl, Nat.zero_le _, hd, fun h => absurd h (by omega)⟩
set_option maxHeartbeats 1000000 in
theorem S_FragmentLess (a b : EFragment) (w : World) :
    Calls Try.prog 90 #[vFrag a, vFrag b] w fun e w' => e = .returned (.bool (fLess a b)) ∧ Below w.heap.size w w' := by
  obtain ⟨a0, a1, a2, a3, a4⟩ := a
  obtain ⟨b0, b1, b2, b3, b4⟩ := b
  by_cases h1 : a0 = b0
  · subst h1
    by_cases h2 : a1 = b1
    · subst h2
      have HE : Hid (fLess (a0, a1, a2, a3, a4) (a0, a1, b2, b3, b4) = decide (a2 < b2)) := by show _ = _; simp [fLess]
      go_enter Try.func90, Try.ntmps90
      go_wp2
      go_ret
      exact ⟨ret_bool HE.out.symm, (by repeat (first | (with_reducible exact Below.refl _ _) | (with_reducible assumption) | ((with_reducible refine Below.alloc ?_ ?_ _); rotate_left; (first | omega | (simp <;> omega))) | ((with_reducible refine Below.setCell ?_ ?_ _); rotate_left; (first | omega | (simp <;> omega))) | (with_reducible refine below_drewN ?_ _) | (with_reducible refine Below.drew ?_) | ((with_reducible refine Below.step (by assumption) ?_ ?_); rotate_left; (first | omega | (simp <;> omega)))))⟩
    · have HE : Hid (fLess (a0, a1, a2, a3, a4) (a0, b1, b2, b3, b4) = decide (a1 < b1)) := by show _ = _; simp [fLess, h2]
      have h2' : (a1 != b1) = true := by simpa using h2
      go_enter Try.func90, Try.ntmps90
      go_wp2
      go_ret
      exact ⟨ret_bool HE.out.symm, (by repeat (first | (with_reducible exact Below.refl _ _) | (with_reducible assumption) | ((with_reducible refine Below.alloc ?_ ?_ _); rotate_left; (first | omega | (simp <;> omega))) | ((with_reducible refine Below.setCell ?_ ?_ _); rotate_left; (first | omega | (simp <;> omega))) | (with_reducible refine below_drewN ?_ _) | (with_reducible refine Below.drew ?_) | ((with_reducible refine Below.step (by assumption) ?_ ?_); rotate_left; (first | omega | (simp <;> omega)))))⟩
  · have HE : Hid (fLess (a0, a1, a2, a3, a4) (b0, b1, b2, b3, b4) = decide (a0 < b0)) := by show _ = _; simp [fLess, h1]
    have h1' : (a0 != b0) = true := by simpa using h1
    go_enter Try.func90, Try.ntmps90
    go_wp2
    go_ret
    exact ⟨ret_bool HE.out.symm, (by repeat (first | (with_reducible exact Below.refl _ _) | (with_reducible assumption) | ((with_reducible refine Below.alloc ?_ ?_ _); rotate_left; (first | omega | (simp <;> omega))) | ((with_reducible refine Below.setCell ?_ ?_ _); rotate_left; (first | omega | (simp <;> omega))) | (with_reducible refine below_drewN ?_ _) | (with_reducible refine Below.drew ?_) | ((with_reducible refine Below.step (by assumption) ?_ ?_); rotate_left; (first | omega | (simp <;> omega)))))⟩
set_option maxHeartbeats 4000000 in
theorem S_InsertFragment {b o c : Nat} {l : List EFragment} {f : EFragment} (w : World) (hs : l.length ≤ 1048576) (h : RS w 5 (some ⟨b, o, none⟩) l.length c (rFragment l)) :
    Calls Try.prog 71 #[.slice (some ⟨b, o, none⟩) l.length c, vFrag f] w (MadeRow 48 5 (insF f l).length (rFragment (insF f l)) w) := by
  have hlc := h.open_.1
  have hcm := h.open_.2.1
  unfold maxLen at hcm
  have H0 := Lib.hid h
  clear h
  obtain ⟨f0, f1, f2, f3, f4⟩ := f
  have HB0 : Hid (Below (w.heap.size + 1) (w.alloc (.cells #[.int .i64 f0, .int .i64 f1, .int .i64 f2, .int .i64 f3, .int .i64 f4] 48)) (w.alloc (.cells #[.int .i64 f0, .int .i64 f1, .int .i64 f2, .int .i64 f3, .int .i64 f4] 48))) := Below.refl _ _
  go_enter Try.func71, Try.ntmps71
  go_wp2_with fail
  go_loopw [5] (fun i wr => ∃ k : Nat, k ≤ posF (f0, f1, f2, f3, f4) l ∧ i = .int .i64 k ∧ Below (w.heap.size + 1) (w.alloc (.cells #[.int .i64 f0, .int .i64 f1, .int .i64 f2, .int .i64 f3, .int .i64 f4] 48)) wr) (fun i _ => l.length - (intOf i).toNat)
  case atStart => exact ⟨0, Nat.zero_le _, rfl, HB0.out⟩
  case round =>
    obtain ⟨k, hk, rfl, hb⟩ := hrel
    have hz := hb.size
    (try simp at hz)
    obtain ⟨cb, fb⟩ := bcell hb
    have k0 : wr.cell? ⟨w.heap.size, 0, none⟩ = some (.int .i64 f0) := by rw [cb _ _ (by omega)]; simp
    have k1 : wr.cell? ⟨w.heap.size, 1, none⟩ = some (.int .i64 f1) := by rw [cb _ _ (by omega)]; simp
    have k2 : wr.cell? ⟨w.heap.size, 2, none⟩ = some (.int .i64 f2) := by rw [cb _ _ (by omega)]; simp
    have k3 : wr.cell? ⟨w.heap.size, 3, none⟩ = some (.int .i64 f3) := by rw [cb _ _ (by omega)]; simp
    have k4 : wr.cell? ⟨w.heap.size, 4, none⟩ = some (.int .i64 f4) := by rw [cb _ _ (by omega)]; simp
    have zr : w.heap.size < wr.heap.size := by omega
    have hbw : Below w.heap.size w wr := Below.trans (Below.alloc (Below.refl _ _) (Nat.le_refl _) _) (hb.mono (by omega))
    have HB := Lib.hid hb
    have HBW := Lib.hid hbw
    have HR := Lib.hid (RS.step hbw H0.out)
    have hpl := posF_le (f0, f1, f2, f3, f4) l
    have i1 : (0 : Int) ≤ k := by omega
    have y0' : IntKind.i64.wrap ((k : Int) + 1) = (k : Int) + 1 := IntWalk.i64_in _ (by omega)
    clear hb cb fb hbw
    have HFIN : Hid (k = posF (f0, f1, f2, f3, f4) l → k + 1 + (l.length - k) = (insF (f0, f1, f2, f3, f4) l).length ∧ ([] ++ rFragment (l.take k)) ++ rFragment [(f0, f1, f2, f3, f4)] ++ rFragment (l.drop k) = rFragment (insF (f0, f1, f2, f3, f4) l)) := by
      intro e
      refine ⟨by rw [insF_len]; omega, ?_⟩
      rw [List.nil_append, ← rFragment_app, ← rFragment_app, insF, ← e]; simp
    have HP1 : Hid (∀ wx, Below w.heap.size w wx → RS wx 5 (some ⟨b, o, none⟩) k c (rFragment (l.take k))) := fun wx hx => frag_head (RS.step hx H0.out) (by omega)
    have HP2 : Hid (∀ wx, Below w.heap.size w wx → RS wx 5 (some ⟨b, o + k * 5, none⟩) (l.length - k) (c - k) (rFragment (l.drop k))) := fun wx hx => frag_tail (RS.step hx H0.out) (by omega)
    by_cases hlt : k < l.length
    · obtain ⟨b', o', he, hbh, hcell⟩ := HR.out.open_.2.2 (by omega)
      injection he with he
      injection he with he1 he2
      subst he1; subst he2
      obtain ⟨q0, q1, q2, q3, q4⟩ := rFragment_at (l := l) hlt
      have d0 : wr.cell? ⟨b, o + k * 5, none⟩ = some (.int .i64 l[k].1) := by rw [hcell _ (by omega), q0]
      have d1 : wr.cell? ⟨b, o + k * 5 + 1, none⟩ = some (.int .i64 l[k].2.1) := by rw [show o + k * 5 + 1 = o + (k * 5 + 1) by omega, hcell _ (by omega), q1]
      have d2 : wr.cell? ⟨b, o + k * 5 + 2, none⟩ = some (.int .i64 l[k].2.2.1) := by rw [show o + k * 5 + 2 = o + (k * 5 + 2) by omega, hcell _ (by omega), q2]
      have d3 : wr.cell? ⟨b, o + k * 5 + 3, none⟩ = some (.int .i64 l[k].2.2.2.1) := by rw [show o + k * 5 + 3 = o + (k * 5 + 3) by omega, hcell _ (by omega), q3]
      have d4 : wr.cell? ⟨b, o + k * 5 + 4, none⟩ = some (.int .i64 l[k].2.2.2.2) := by rw [show o + k * 5 + 4 = o + (k * 5 + 4) by omega, hcell _ (by omega), q4]
      have i2 : (k : Int) < l.length := by omega
      have HSTEP : Hid (fLess (f0, f1, f2, f3, f4) l[k] = false → k + 1 ≤ posF (f0, f1, f2, f3, f4) l) := fun h => posF_step hk hlt h
      have HSTOP : Hid (fLess (f0, f1, f2, f3, f4) l[k] = true → k = posF (f0, f1, f2, f3, f4) l) := fun h => posF_stop hk hlt h
      clear hcell q0 q1 q2 q3 q4 hk
      generalize l[k] = x at *
      cases hf : fLess (f0, f1, f2, f3, f4) x
      case false =>
        have HK := Lib.hid (HSTEP.out hf)
        go_wp2_with fail
        go_region_held3 (fun w' => w'.cell? ⟨w.heap.size, 0, none⟩ = some (.int .i64 f0) ∧ w'.cell? ⟨w.heap.size, 1, none⟩ = some (.int .i64 f1) ∧ w'.cell? ⟨w.heap.size, 2, none⟩ = some (.int .i64 f2) ∧ w'.cell? ⟨w.heap.size, 3, none⟩ = some (.int .i64 f3) ∧ w'.cell? ⟨w.heap.size, 4, none⟩ = some (.int .i64 f4) ∧ w'.cell? ⟨b, o + k * 5, none⟩ = some (.int .i64 x.1) ∧ w'.cell? ⟨b, o + k * 5 + 1, none⟩ = some (.int .i64 x.2.1) ∧ w'.cell? ⟨b, o + k * 5 + 2, none⟩ = some (.int .i64 x.2.2.1) ∧ w'.cell? ⟨b, o + k * 5 + 3, none⟩ = some (.int .i64 x.2.2.2.1) ∧ w'.cell? ⟨b, o + k * 5 + 4, none⟩ = some (.int .i64 x.2.2.2.2))
          (first | ((try dsimp only); refine ⟨?_, ?_, ?_, ?_, ?_, ?_, ?_, ?_, ?_, ?_⟩ <;> (go_simp; done)) | go_keep)
          ((go_at_call 90; (with_reducible refine (S_FragmentLess (f0, f1, f2, f3, f4) x _).mono ?_); rintro e w5 ⟨rfl, hb5⟩; have hz5 := hb5.size; (try simp at hz5); have c5 := fun o => hb5.cell (p := ⟨w.heap.size, o, none⟩) (by first | omega | (simp <;> omega)); have c6 := fun o => hb5.cell (p := ⟨b, o, none⟩) (by first | omega | (simp <;> omega))))
        have HB5 := Lib.hid (Below.trans HB.out (by repeat (first | (with_reducible exact Below.refl _ _) | (with_reducible exact hb5) | (with_reducible assumption) | ((with_reducible refine Below.alloc ?_ ?_ _); rotate_left; (first | omega | (simp <;> omega))) | ((with_reducible refine Below.setCell ?_ ?_ _); rotate_left; (first | omega | (simp <;> omega))) | (with_reducible refine below_drewN ?_ _) | (with_reducible refine Below.drew ?_) | ((with_reducible refine Below.step (by assumption) ?_ ?_); rotate_left; (first | omega | (simp <;> omega))))))
        (try rw [hf])
        go_wp2_with fail
        go_roundw
        case rel => exact ⟨k + 1, HK.out, by go_num, (by repeat (first | (with_reducible exact Below.refl _ _) | (with_reducible exact HB5.out) | (with_reducible assumption) | ((with_reducible refine Below.alloc ?_ ?_ _); rotate_left; (first | omega | (simp <;> omega))) | ((with_reducible refine Below.setCell ?_ ?_ _); rotate_left; (first | omega | (simp <;> omega))) | (with_reducible refine below_drewN ?_ _) | (with_reducible refine Below.drew ?_) | ((with_reducible refine Below.step (by assumption) ?_ ?_); rotate_left; (first | omega | (simp <;> omega)))))⟩
        case measure => simp [intOf]; omega
      case true =>
        obtain ⟨hq1, hq2⟩ := HFIN.out (HSTOP.out hf)
        have HQ := Lib.hid (And.intro hq1 hq2)
        clear hq1 hq2
        go_wp2_with fail
        go_region_held3 (fun w' => w'.cell? ⟨w.heap.size, 0, none⟩ = some (.int .i64 f0) ∧ w'.cell? ⟨w.heap.size, 1, none⟩ = some (.int .i64 f1) ∧ w'.cell? ⟨w.heap.size, 2, none⟩ = some (.int .i64 f2) ∧ w'.cell? ⟨w.heap.size, 3, none⟩ = some (.int .i64 f3) ∧ w'.cell? ⟨w.heap.size, 4, none⟩ = some (.int .i64 f4) ∧ w'.cell? ⟨b, o + k * 5, none⟩ = some (.int .i64 x.1) ∧ w'.cell? ⟨b, o + k * 5 + 1, none⟩ = some (.int .i64 x.2.1) ∧ w'.cell? ⟨b, o + k * 5 + 2, none⟩ = some (.int .i64 x.2.2.1) ∧ w'.cell? ⟨b, o + k * 5 + 3, none⟩ = some (.int .i64 x.2.2.2.1) ∧ w'.cell? ⟨b, o + k * 5 + 4, none⟩ = some (.int .i64 x.2.2.2.2))
          (first | ((try dsimp only); refine ⟨?_, ?_, ?_, ?_, ?_, ?_, ?_, ?_, ?_, ?_⟩ <;> (go_simp; done)) | go_keep)
          ((go_at_call 90; (with_reducible refine (S_FragmentLess (f0, f1, f2, f3, f4) x _).mono ?_); rintro e w5 ⟨rfl, hb5⟩; have hz5 := hb5.size; (try simp at hz5); have c5 := fun o => hb5.cell (p := ⟨w.heap.size, o, none⟩) (by first | omega | (simp <;> omega)); have c6 := fun o => hb5.cell (p := ⟨b, o, none⟩) (by first | omega | (simp <;> omega))))
        (try rw [hf])
        have hB5 : Below wr.heap.size wr w5 := (by repeat (first | (with_reducible exact Below.refl _ _) | (with_reducible exact hb5) | (with_reducible assumption) | ((with_reducible refine Below.alloc ?_ ?_ _); rotate_left; (first | omega | (simp <;> omega))) | ((with_reducible refine Below.setCell ?_ ?_ _); rotate_left; (first | omega | (simp <;> omega))) | (with_reducible refine below_drewN ?_ _) | (with_reducible refine Below.drew ?_) | ((with_reducible refine Below.step (by assumption) ?_ ?_); rotate_left; (first | omega | (simp <;> omega)))))
        have k0' : w5.cell? ⟨w.heap.size, 0, none⟩ = some (.int .i64 f0) := by rw [hB5.cell (p := ⟨w.heap.size, 0, none⟩) (by omega), k0]
        have k1' : w5.cell? ⟨w.heap.size, 1, none⟩ = some (.int .i64 f1) := by rw [hB5.cell (p := ⟨w.heap.size, 1, none⟩) (by omega), k1]
        have k2' : w5.cell? ⟨w.heap.size, 2, none⟩ = some (.int .i64 f2) := by rw [hB5.cell (p := ⟨w.heap.size, 2, none⟩) (by omega), k2]
        have k3' : w5.cell? ⟨w.heap.size, 3, none⟩ = some (.int .i64 f3) := by rw [hB5.cell (p := ⟨w.heap.size, 3, none⟩) (by omega), k3]
        have k4' : w5.cell? ⟨w.heap.size, 4, none⟩ = some (.int .i64 f4) := by rw [hB5.cell (p := ⟨w.heap.size, 4, none⟩) (by omega), k4]
        have z95 : w.heap.size < w5.heap.size := by omega
        have HBX := Lib.hid hB5
        have HBY := Lib.hid (Below.trans HBW.out (hB5.mono (by omega)))
        clear hB5 hb5 c5 c6 d0 d1 d2 d3 d4 k0 k1 k2 k3 k4
        go_wp2_with (at_builtin; (first | (refine wpList_app (by rfl) _ _ 44 (by rfl) (w.heap.size + 1) 48 (.agg #[.int .i64 0, .int .i64 0, .int .i64 0, .int .i64 0, .int .i64 0]) 5 40 Try.underlying44 T.infoFragment rfl (by decide) (xs := []) (by rfl) ?_ (ys := rFragment (l.take k)) (by rfl) ?_ (rFragment_one _) ?_ ?_ ?_ ?_; (exact (by repeat (first | (with_reducible assumption) | (with_reducible refine Grow.drewN ?_ _) | (with_reducible refine Grow.drew ?_) | ((with_reducible refine Grow.app (by assumption) ?_ ?_); rotate_left; (intro x hx hy; simp [gOf] at hx hy; omega)) | ((refine Grow.lit_at ?_ (by rfl) ?_ (Nat.zero_le _)); (focus (simp; done)); (first | omega | (simp <;> omega))) | (with_reducible refine Grow.alloc ?_ _)))); (exact HP1.out _ (by repeat (first | (with_reducible exact Below.refl _ _) | (with_reducible exact HBY.out) | (with_reducible assumption) | ((with_reducible refine Below.alloc ?_ ?_ _); rotate_left; (first | omega | (simp <;> omega))) | ((with_reducible refine Below.setCell ?_ ?_ _); rotate_left; (first | omega | (simp <;> omega))) | (with_reducible refine below_drewN ?_ _) | (with_reducible refine Below.drew ?_) | ((with_reducible refine Below.step (by assumption) ?_ ?_); rotate_left; (first | omega | (simp <;> omega)))))); (unfold maxLen; omega); (omega); (first | omega | (simp <;> omega)); rintro P1 k1 x1 gA1; have hY1 : Below w.heap.size w x1 := Below.trans (by repeat (first | (with_reducible exact Below.refl _ _) | (with_reducible exact HBY.out) | (with_reducible assumption) | ((with_reducible refine Below.alloc ?_ ?_ _); rotate_left; (first | omega | (simp <;> omega))) | ((with_reducible refine Below.setCell ?_ ?_ _); rotate_left; (first | omega | (simp <;> omega))) | (with_reducible refine below_drewN ?_ _) | (with_reducible refine Below.drew ?_) | ((with_reducible refine Below.step (by assumption) ?_ ?_); rotate_left; (first | omega | (simp <;> omega))))) (gA1.2.1.mono (by omega)); have g1 := gA1.1; rw [Nat.zero_add] at g1; have far1 := (Appended.far gA1 (b := w.heap.size) (by simp; omega) (by simp [gOf]; omega)).1; have hsx1 := gA1.2.2.2.1; (try simp at hsx1)) | (refine wpList_app (by rfl) _ _ 44 (by rfl) (w.heap.size + 1) 48 (.agg #[.int .i64 0, .int .i64 0, .int .i64 0, .int .i64 0, .int .i64 0]) 5 40 Try.underlying44 T.infoFragment rfl (by decide) (xs := [] ++ rFragment (l.take k)) (by rfl) ?_ (ys := rFragment [(f0, f1, f2, f3, f4)]) (by rfl) ?_ (rFragment_one _) ?_ ?_ ?_ ?_; (exact (by repeat (first | (with_reducible exact g1) | (with_reducible refine Grow.alloc ?_ _) | (with_reducible refine Grow.drewN ?_ _) | (with_reducible refine Grow.drew ?_) | ((with_reducible refine Grow.far ?_ ?_ _); rotate_left; (first | omega | (simp <;> omega))) | (with_reducible refine Grow.step (by assumption) ?_)))); (exact (Grow.rs (base := 0) (n := 1) (c := 1) (by repeat (first | (with_reducible refine Grow.drewN ?_ _) | (with_reducible refine Grow.drew ?_) | (refine Grow.lit_at (by simp) (by rfl) (Nat.zero_le _) (by unfold maxLen; omega)))))); (unfold maxLen; omega); (omega); (first | omega | (simp <;> omega)); rintro P2 k2 x2 gA2; have hY2 : Below w.heap.size w x2 := Below.trans (by repeat (first | (with_reducible exact Below.refl _ _) | (with_reducible exact hY1) | (with_reducible assumption) | ((with_reducible refine Below.alloc ?_ ?_ _); rotate_left; (first | omega | (simp <;> omega))) | ((with_reducible refine Below.setCell ?_ ?_ _); rotate_left; (first | omega | (simp <;> omega))) | (with_reducible refine below_drewN ?_ _) | (with_reducible refine Below.drew ?_) | ((with_reducible refine Below.step (by assumption) ?_ ?_); rotate_left; (first | omega | (simp <;> omega))))) (gA2.2.1.mono (by omega)); have hsx2 := gA2.2.2.2.1; (try simp at hsx2); have g2 := gA2.1) | (refine wpList_app (by rfl) _ _ 44 (by rfl) (w.heap.size + 1) 48 (.agg #[.int .i64 0, .int .i64 0, .int .i64 0, .int .i64 0, .int .i64 0]) 5 40 Try.underlying44 T.infoFragment rfl (by decide) (xs := [] ++ rFragment (l.take k) ++ rFragment [(f0, f1, f2, f3, f4)]) (by rfl) ?_ (ys := rFragment (l.drop k)) (by rfl) ?_ (rFragment_one _) ?_ ?_ ?_ ?_; (exact (by repeat (first | (with_reducible exact g2) | (with_reducible refine Grow.alloc ?_ _) | (with_reducible refine Grow.drewN ?_ _) | (with_reducible refine Grow.drew ?_) | ((with_reducible refine Grow.far ?_ ?_ _); rotate_left; (first | omega | (simp <;> omega))) | (with_reducible refine Grow.step (by assumption) ?_)))); (exact HP2.out _ (by repeat (first | (with_reducible exact Below.refl _ _) | (with_reducible exact hY2) | (with_reducible assumption) | ((with_reducible refine Below.alloc ?_ ?_ _); rotate_left; (first | omega | (simp <;> omega))) | ((with_reducible refine Below.setCell ?_ ?_ _); rotate_left; (first | omega | (simp <;> omega))) | (with_reducible refine below_drewN ?_ _) | (with_reducible refine Below.drew ?_) | ((with_reducible refine Below.step (by assumption) ?_ ?_); rotate_left; (first | omega | (simp <;> omega)))))); (unfold maxLen; omega); (omega); (first | omega | (simp <;> omega)); rintro P3 k3 x3 gA3)))
        go_ret
        rw [← HQ.out.1, ← HQ.out.2]
        exact Grow.made gA3.1 (by omega) (Below.trans (by repeat (first | (with_reducible exact Below.refl _ _) | (with_reducible exact hY2) | (with_reducible assumption) | ((with_reducible refine Below.alloc ?_ ?_ _); rotate_left; (first | omega | (simp <;> omega))) | ((with_reducible refine Below.setCell ?_ ?_ _); rotate_left; (first | omega | (simp <;> omega))) | (with_reducible refine below_drewN ?_ _) | (with_reducible refine Below.drew ?_) | ((with_reducible refine Below.step (by assumption) ?_ ?_); rotate_left; (first | omega | (simp <;> omega))))) (gA3.2.1.mono (by omega)))
    · have hke : k = l.length := by omega
      obtain ⟨hq1, hq2⟩ := HFIN.out (by omega)
      have HQ := Lib.hid (And.intro (show k + 1 = (insF (f0, f1, f2, f3, f4) l).length by omega) hq2)
      have i2 : ¬ (k : Int) < l.length := by omega
      have i3 : (k : Int) ≤ l.length := by omega
      have i4 : (k : Int) ≤ c := by omega
      clear hq1 hq2 hke
      go_wp2_with fail
      go_quiet (fail)
      generalize hw5 : wr.drewN nq = w5
      have hB5 : Below wr.heap.size wr w5 := by rw [← hw5]; exact (by repeat (first | (with_reducible exact Below.refl _ _) | (with_reducible assumption) | ((with_reducible refine Below.alloc ?_ ?_ _); rotate_left; (first | omega | (simp <;> omega))) | ((with_reducible refine Below.setCell ?_ ?_ _); rotate_left; (first | omega | (simp <;> omega))) | (with_reducible refine below_drewN ?_ _) | (with_reducible refine Below.drew ?_) | ((with_reducible refine Below.step (by assumption) ?_ ?_); rotate_left; (first | omega | (simp <;> omega)))))
      clear hw5
      have hz5 := hB5.size
      have k0' : w5.cell? ⟨w.heap.size, 0, none⟩ = some (.int .i64 f0) := by rw [hB5.cell (p := ⟨w.heap.size, 0, none⟩) (by omega), k0]
      have k1' : w5.cell? ⟨w.heap.size, 1, none⟩ = some (.int .i64 f1) := by rw [hB5.cell (p := ⟨w.heap.size, 1, none⟩) (by omega), k1]
      have k2' : w5.cell? ⟨w.heap.size, 2, none⟩ = some (.int .i64 f2) := by rw [hB5.cell (p := ⟨w.heap.size, 2, none⟩) (by omega), k2]
      have k3' : w5.cell? ⟨w.heap.size, 3, none⟩ = some (.int .i64 f3) := by rw [hB5.cell (p := ⟨w.heap.size, 3, none⟩) (by omega), k3]
      have k4' : w5.cell? ⟨w.heap.size, 4, none⟩ = some (.int .i64 f4) := by rw [hB5.cell (p := ⟨w.heap.size, 4, none⟩) (by omega), k4]
      have z95 : w.heap.size < w5.heap.size := by omega
      have HBX := Lib.hid hB5
      have HBY := Lib.hid (Below.trans HBW.out (hB5.mono (by omega)))
      clear hB5 k0 k1 k2 k3 k4
      have hkl2 : l.length ≤ k := by omega
      by_cases hck : c - k = 0
      all_goals
        go_wp2_with (at_builtin; (first | (refine wpList_app (by rfl) _ _ 44 (by rfl) (w.heap.size + 1) 48 (.agg #[.int .i64 0, .int .i64 0, .int .i64 0, .int .i64 0, .int .i64 0]) 5 40 Try.underlying44 T.infoFragment rfl (by decide) (xs := []) (by rfl) ?_ (ys := rFragment (l.take k)) (by rfl) ?_ (rFragment_one _) ?_ ?_ ?_ ?_; (exact (by repeat (first | (with_reducible assumption) | (with_reducible refine Grow.drewN ?_ _) | (with_reducible refine Grow.drew ?_) | ((with_reducible refine Grow.app (by assumption) ?_ ?_); rotate_left; (intro x hx hy; simp [gOf] at hx hy; omega)) | ((refine Grow.lit_at ?_ (by rfl) ?_ (Nat.zero_le _)); (focus (simp; done)); (first | omega | (simp <;> omega))) | (with_reducible refine Grow.alloc ?_ _)))); (exact HP1.out _ (by repeat (first | (with_reducible exact Below.refl _ _) | (with_reducible exact HBY.out) | (with_reducible assumption) | ((with_reducible refine Below.alloc ?_ ?_ _); rotate_left; (first | omega | (simp <;> omega))) | ((with_reducible refine Below.setCell ?_ ?_ _); rotate_left; (first | omega | (simp <;> omega))) | (with_reducible refine below_drewN ?_ _) | (with_reducible refine Below.drew ?_) | ((with_reducible refine Below.step (by assumption) ?_ ?_); rotate_left; (first | omega | (simp <;> omega)))))); (unfold maxLen; omega); (omega); (first | omega | (simp <;> omega)); rintro P1 k1 x1 gA1; have hY1 : Below w.heap.size w x1 := Below.trans (by repeat (first | (with_reducible exact Below.refl _ _) | (with_reducible exact HBY.out) | (with_reducible assumption) | ((with_reducible refine Below.alloc ?_ ?_ _); rotate_left; (first | omega | (simp <;> omega))) | ((with_reducible refine Below.setCell ?_ ?_ _); rotate_left; (first | omega | (simp <;> omega))) | (with_reducible refine below_drewN ?_ _) | (with_reducible refine Below.drew ?_) | ((with_reducible refine Below.step (by assumption) ?_ ?_); rotate_left; (first | omega | (simp <;> omega))))) (gA1.2.1.mono (by omega)); have g1 := gA1.1; rw [Nat.zero_add] at g1; have far1 := (Appended.far gA1 (b := w.heap.size) (by simp; omega) (by simp [gOf]; omega)).1; have hsx1 := gA1.2.2.2.1; (try simp at hsx1)) | (refine wpList_app (by rfl) _ _ 44 (by rfl) (w.heap.size + 1) 48 (.agg #[.int .i64 0, .int .i64 0, .int .i64 0, .int .i64 0, .int .i64 0]) 5 40 Try.underlying44 T.infoFragment rfl (by decide) (xs := [] ++ rFragment (l.take k)) (by rfl) ?_ (ys := rFragment [(f0, f1, f2, f3, f4)]) (by rfl) ?_ (rFragment_one _) ?_ ?_ ?_ ?_; (exact (by repeat (first | (with_reducible exact g1) | (with_reducible refine Grow.alloc ?_ _) | (with_reducible refine Grow.drewN ?_ _) | (with_reducible refine Grow.drew ?_) | ((with_reducible refine Grow.far ?_ ?_ _); rotate_left; (first | omega | (simp <;> omega))) | (with_reducible refine Grow.step (by assumption) ?_)))); (exact (Grow.rs (base := 0) (n := 1) (c := 1) (by repeat (first | (with_reducible refine Grow.drewN ?_ _) | (with_reducible refine Grow.drew ?_) | (refine Grow.lit_at (by simp) (by rfl) (Nat.zero_le _) (by unfold maxLen; omega)))))); (unfold maxLen; omega); (omega); (first | omega | (simp <;> omega)); rintro P2 k2 x2 gA2; have hY2 : Below w.heap.size w x2 := Below.trans (by repeat (first | (with_reducible exact Below.refl _ _) | (with_reducible exact hY1) | (with_reducible assumption) | ((with_reducible refine Below.alloc ?_ ?_ _); rotate_left; (first | omega | (simp <;> omega))) | ((with_reducible refine Below.setCell ?_ ?_ _); rotate_left; (first | omega | (simp <;> omega))) | (with_reducible refine below_drewN ?_ _) | (with_reducible refine Below.drew ?_) | ((with_reducible refine Below.step (by assumption) ?_ ?_); rotate_left; (first | omega | (simp <;> omega))))) (gA2.2.1.mono (by omega)); have hsx2 := gA2.2.2.2.1; (try simp at hsx2); have g2 := gA2.1) | (refine wpList_app (by rfl) _ _ 44 (by rfl) (w.heap.size + 1) 48 (.agg #[.int .i64 0, .int .i64 0, .int .i64 0, .int .i64 0, .int .i64 0]) 5 40 Try.underlying44 T.infoFragment rfl (by decide) (xs := [] ++ rFragment (l.take k) ++ rFragment [(f0, f1, f2, f3, f4)]) (by rfl) ?_ (ys := rFragment (l.drop k)) (by rfl) ?_ (rFragment_one _) ?_ ?_ ?_ ?_; (exact (by repeat (first | (with_reducible exact g2) | (with_reducible refine Grow.alloc ?_ _) | (with_reducible refine Grow.drewN ?_ _) | (with_reducible refine Grow.drew ?_) | ((with_reducible refine Grow.far ?_ ?_ _); rotate_left; (first | omega | (simp <;> omega))) | (with_reducible refine Grow.step (by assumption) ?_)))); (exact (by first | exact HP2.out _ (by repeat (first | (with_reducible exact Below.refl _ _) | (with_reducible exact hY2) | (with_reducible assumption) | ((with_reducible refine Below.alloc ?_ ?_ _); rotate_left; (first | omega | (simp <;> omega))) | ((with_reducible refine Below.setCell ?_ ?_ _); rotate_left; (first | omega | (simp <;> omega))) | (with_reducible refine below_drewN ?_ _) | (with_reducible refine Below.drew ?_) | ((with_reducible refine Below.step (by assumption) ?_ ?_); rotate_left; (first | omega | (simp <;> omega))))) | exact frag_none (by omega) (by unfold maxLen; omega))); (unfold maxLen; omega); (omega); (first | omega | (simp <;> omega)); rintro P3 k3 x3 gA3)))
        go_ret
        rw [← HQ.out.1, ← HQ.out.2]
        exact Grow.made gA3.1 (by omega) (Below.trans (by repeat (first | (with_reducible exact Below.refl _ _) | (with_reducible exact hY2) | (with_reducible assumption) | ((with_reducible refine Below.alloc ?_ ?_ _); rotate_left; (first | omega | (simp <;> omega))) | ((with_reducible refine Below.setCell ?_ ?_ _); rotate_left; (first | omega | (simp <;> omega))) | (with_reducible refine below_drewN ?_ _) | (with_reducible refine Below.drew ?_) | ((with_reducible refine Below.step (by assumption) ?_ ?_); rotate_left; (first | omega | (simp <;> omega))))) (gA3.2.1.mono (by omega)))
end Go.Proofs.Ytaeajeclbcodeaa
