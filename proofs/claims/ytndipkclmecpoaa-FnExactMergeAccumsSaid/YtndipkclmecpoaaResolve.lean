/- ResolveAccum of the reference and of the program. -/
import Derived.Test.YtndipkclmecpoaaAccumV
import Derived.Test.YtndipkclmecpoaaDivs
import Derived.Test.YtndipkclmecpoaaMade
namespace Go.Proofs.Ytndipkclmecpoaa
open Go.RowKit
set_option linter.unusedVariables false
theorem validAcc_true {W H : Int} {s t : List Int} (h : validAcc W H s t = true) : sizeB W H = true ∧ (s.length : Int) = W * H ∧ (t.length : Int) = W * H ∧ s.length = t.length ∧ s.length ≤ 144 ∧ (1 ≤ W ∧ W ≤ 12) ∧ (1 ≤ H ∧ H ≤ 12) := by
  unfold validAcc at h
  simp only [Bool.and_eq_true, decide_eq_true_eq] at h
  obtain ⟨h1, h2, h3, h4⟩ := h
  have := area_rng h1
  exact ⟨h1, h2, h3, by omega, by omega, sizeB_true h1⟩
theorem validAcc_get {W H : Int} {s t : List Int} (h : validAcc W H s t = true) {k : Nat} (hs : k < s.length) (ht : k < t.length) : (0 ≤ t[k] ∧ t[k] ≤ 1000000000) ∧ 0 ≤ s[k] ∧ s[k] ≤ 256 * t[k] := by
  unfold validAcc at h
  simp only [Bool.and_eq_true, decide_eq_true_eq] at h
  obtain ⟨h1, h2, h3, h4⟩ := h
  have := zip_get h4 hs ht
  simp only [accPair, Bool.and_eq_true] at this
  exact ⟨inB_true this.1, inB_true this.2⟩
def resTo (s t : List Int) (k : Nat) : List Int := ((s.zip t).take k).map (fun p => fdivF p.1 p.2)
theorem resTo_succ {s t : List Int} {k : Nat} (hs : k < s.length) (ht : k < t.length) : resTo s t (k + 1) = resTo s t k ++ [fdivF s[k] t[k]] := by
  have hk : k < (s.zip t).length := by simp; omega
  unfold resTo
  rw [List.take_succ_eq_append_getElem hk, List.map_append]
  simp
theorem resTo_len {s t : List Int} {k : Nat} (h : s.length = t.length) (hk : k ≤ s.length) : (resTo s t k).length = k := by unfold resTo; simp; omega
def resF (W H : Int) (s t : List Int) : List Int := if validAcc W H s t then resTo s t s.length else []
theorem resF_len (W H : Int) (s t : List Int) : (resF W H s t).length ≤ 144 := by
  unfold resF
  split
  · next h =>
    obtain ⟨_, _, _, h1, h2, _⟩ := validAcc_true h
    rw [resTo_len h1 (Nat.le_refl _)]; exact h2
  · simp
theorem ints_snoc (l : List Int) (x : Int) : ints l ++ ints [x] = ints (l ++ [x]) := by simp
set_option maxHeartbeats 4000000 in
theorem S_ResolveAccum {W H : Int} {A B : Option Addr} {c d : Nat} {s t : List Int} (w : World) (h : RS w 1 A s.length c (ints s)) (h' : RS w 1 B t.length d (ints t)) :
    Calls Try.prog 56 #[vAccum W H (.slice A s.length c) (.slice B t.length d)] w (MadeRow 3 1 (resF W H s t).length (ints (resF W H s t)) w) := by
  have hn := h.len
  have hn' := h'.len
  unfold maxLen at hn hn'
  have H0 := Lib.hid h
  have H0' := Lib.hid h'
  clear h h'
  cases hok : validAcc W H s t
  case false =>
    have HV : Hid (MadeRow 3 1 (resF W H s t).length (ints (resF W H s t)) w = MadeRow 3 1 0 [] w) := by show _ = _; unfold resF; rw [hok]; rfl
    go_enter Try.func56, Try.ntmps56
    go_wp2_with fail
    refine (S_IsValidAccum _ (RS.step (by repeat (first | (with_reducible exact Below.refl _ _) | (with_reducible assumption) | ((with_reducible refine Below.alloc ?_ ?_ _); rotate_left; (first | omega | (simp <;> omega))) | ((with_reducible refine Below.setCell ?_ ?_ _); rotate_left; (first | omega | (simp <;> omega))) | (with_reducible refine below_drewN ?_ _) | (with_reducible refine Below.drew ?_) | ((with_reducible refine Below.step (by assumption) ?_ ?_); rotate_left; (first | omega | (simp <;> omega))))) H0.out) (RS.step (by repeat (first | (with_reducible exact Below.refl _ _) | (with_reducible assumption) | ((with_reducible refine Below.alloc ?_ ?_ _); rotate_left; (first | omega | (simp <;> omega))) | ((with_reducible refine Below.setCell ?_ ?_ _); rotate_left; (first | omega | (simp <;> omega))) | (with_reducible refine below_drewN ?_ _) | (with_reducible refine Below.drew ?_) | ((with_reducible refine Below.step (by assumption) ?_ ?_); rotate_left; (first | omega | (simp <;> omega))))) H0'.out)).mono ?_
    rintro e w' ⟨rfl, hb⟩; have hz := hb.size; (try simp at hz); have c0 := fun o => hb.cell (p := ⟨w.heap.size, o, none⟩) (by first | omega | (simp <;> omega)); have f0 := fun o => hb.frozen (p := ⟨w.heap.size, o, none⟩) (by first | omega | (simp <;> omega)); have z0 : w.heap.size < w'.heap.size := (by omega); have c1 := fun o => hb.cell (p := ⟨w.heap.size + 1, o, none⟩) (by first | omega | (simp <;> omega)); have f1 := fun o => hb.frozen (p := ⟨w.heap.size + 1, o, none⟩) (by first | omega | (simp <;> omega)); have z1 : w.heap.size + 1 < w'.heap.size := (by omega)
    go_wp2
    rw [HV.out]
    go_ret
    exact MadeRow.none_ _ _ _ (by repeat (first | (with_reducible exact Below.refl _ _) | (with_reducible assumption) | ((with_reducible refine Below.alloc ?_ ?_ _); rotate_left; (first | omega | (simp <;> omega))) | ((with_reducible refine Below.setCell ?_ ?_ _); rotate_left; (first | omega | (simp <;> omega))) | (with_reducible refine below_drewN ?_ _) | (with_reducible refine Below.drew ?_) | ((with_reducible refine Below.step (by assumption) ?_ ?_); rotate_left; (first | omega | (simp <;> omega)))))
  case true =>
    have HV : Hid (MadeRow 3 1 (resF W H s t).length (ints (resF W H s t)) w = MadeRow 3 1 (resTo s t s.length).length (ints (resTo s t s.length)) w) := by show _ = _; unfold resF; rw [hok]; rfl
    obtain ⟨_, _, _, hlen, h144, _, _⟩ := validAcc_true hok
    have HG := Lib.hid (fun k h1 h2 => validAcc_get hok (k := k) h1 h2)
    have HL := Lib.hid hlen
    clear hlen
    go_enter Try.func56, Try.ntmps56
    go_wp2_with fail
    refine (S_IsValidAccum _ (RS.step (by repeat (first | (with_reducible exact Below.refl _ _) | (with_reducible assumption) | ((with_reducible refine Below.alloc ?_ ?_ _); rotate_left; (first | omega | (simp <;> omega))) | ((with_reducible refine Below.setCell ?_ ?_ _); rotate_left; (first | omega | (simp <;> omega))) | (with_reducible refine below_drewN ?_ _) | (with_reducible refine Below.drew ?_) | ((with_reducible refine Below.step (by assumption) ?_ ?_); rotate_left; (first | omega | (simp <;> omega))))) H0.out) (RS.step (by repeat (first | (with_reducible exact Below.refl _ _) | (with_reducible assumption) | ((with_reducible refine Below.alloc ?_ ?_ _); rotate_left; (first | omega | (simp <;> omega))) | ((with_reducible refine Below.setCell ?_ ?_ _); rotate_left; (first | omega | (simp <;> omega))) | (with_reducible refine below_drewN ?_ _) | (with_reducible refine Below.drew ?_) | ((with_reducible refine Below.step (by assumption) ?_ ?_); rotate_left; (first | omega | (simp <;> omega))))) H0'.out)).mono ?_
    rintro e w1 ⟨rfl, hb⟩
    have hz := hb.size
    (try simp at hz)
    have hB1 : Below (w.heap.size + 1) (w.alloc (.cells #[.int .i64 W, .int .i64 H, .slice A s.length c, .slice B t.length d] 81)) w1 := Below.trans (Below.alloc (Below.refl _ _) (by simp) _) (hb.mono (by simp))
    have HG0 : Hid (Grow w1 (w.heap.size + 1) 3 1 (some ⟨w.heap.size + 1, 0, none⟩) 0 0 []) := Grow.step hb (Grow.lit_at (cs := #[]) (n := 0) (by simp) rfl (by simp) (Nat.zero_le _))
    have HB1 := Lib.hid hB1
    obtain ⟨c1, f1⟩ := bcell hB1
    clear hb hB1
    go_wp2_with fail
    clear c1 f1
    go_loopw [3, 4, 5, 13] (fun o _ _ i wr => ∃ (k : Nat) (C : Option Addr) (n q : Nat), k ≤ t.length ∧ i = .int .i64 k ∧ o = .slice C n q ∧ Grow wr (w.heap.size + 1) 3 1 C n q (ints (resTo s t k)) ∧ Below (w.heap.size + 1) (w.alloc (.cells #[.int .i64 W, .int .i64 H, .slice A s.length c, .slice B t.length d] 81)) wr) (fun _ _ _ i _ => t.length - (intOf i).toNat)
    case atStart => exact ⟨0, _, _, _, Nat.zero_le _, rfl, rfl, HG0.out, HB1.out⟩
    case round =>
      obtain ⟨k, C, n, q, hk, rfl, rfl, hg, hb⟩ := hrel
      have hL := HL.out
      have hn : n = k := by have := hg.len; simp at this; rw [resTo_len hL (by omega)] at this; omega
      have hbw : Below w.heap.size w wr := Below.trans (by repeat (first | (with_reducible exact Below.refl _ _) | (with_reducible assumption) | ((with_reducible refine Below.alloc ?_ ?_ _); rotate_left; (first | omega | (simp <;> omega))) | ((with_reducible refine Below.setCell ?_ ?_ _); rotate_left; (first | omega | (simp <;> omega))) | (with_reducible refine below_drewN ?_ _) | (with_reducible refine Below.drew ?_) | ((with_reducible refine Below.step (by assumption) ?_ ?_); rotate_left; (first | omega | (simp <;> omega))))) (hb.mono (by omega))
      subst hn
      have HGr := Lib.hid hg
      have HB := Lib.hid hb
      have HR := Lib.hid (RS.step hbw H0.out)
      have HR' := Lib.hid (RS.step hbw H0'.out)
      have hsz := hb.size
      (try simp at hsz)
      obtain ⟨cb, fb⟩ := bcell hb
      have cb2 : wr.cell? ⟨w.heap.size, 2, none⟩ = some (.slice A s.length c) := by rw [cb _ _ (by omega)]; simp
      clear hg hb hbw cb fb
      by_cases hlt : n < t.length
      · have hlt' : n < s.length := by omega
        obtain ⟨b, off, rfl, hbh, hcell⟩ := HR.out.open_.2.2 (by omega)
        obtain ⟨b', off', rfl, hbh', hcell'⟩ := HR'.out.open_.2.2 (by omega)
        have d1 : wr.cell? ⟨b, off + n, none⟩ = some (.int .i64 s[n]) := by rw [hcell n (by omega), ints_at hlt']
        have d2 : wr.cell? ⟨b', off' + n, none⟩ = some (.int .i64 t[n]) := by rw [hcell' n (by omega), ints_at hlt]
        have i1 : (0 : Int) ≤ n := by omega
        have i2 : (n : Int) < s.length := by omega
        obtain ⟨⟨x1, x2⟩, x3, x4⟩ := HG.out n hlt' hlt
        have HS := Lib.hid (resTo_succ hlt' hlt)
        clear hcell hcell' hL
        generalize s[n] = x at *
        generalize t[n] = y at *
        by_cases hy : y = 0
        · have hy' : (y == 0) = true := by simp [hy]
          have HS2 : Hid (resTo s t (n + 1) = resTo s t n ++ [0]) := by show _ = _; rw [HS.out]; unfold fdivF; rw [if_pos (by omega)]
          clear hy
          go_wp2_with (at_builtin; refine wpList_app (by rfl) _ _ 22 (by rfl) (w.heap.size + 1) 3 (.int .i64 0) 1 8 Try.underlying22 T.infoInt rfl (by decide) (xs := ints (resTo s t n)) (by rfl) ?_ (ys := ints [0]) (by rfl) ?_ (ints_one _) ?_ ?_ ?_ ?_; (exact (by repeat (first | (with_reducible exact HGr.out) | (with_reducible refine Grow.alloc ?_ _) | (with_reducible refine Grow.drewN ?_ _) | (with_reducible refine Grow.drew ?_) | ((with_reducible refine Grow.far ?_ ?_ _); rotate_left; (first | omega | (simp <;> omega))) | (with_reducible refine Grow.step (by assumption) ?_)))); (exact (Grow.rs (base := 0) (n := 1) (c := 1) (by repeat (first | (with_reducible refine Grow.drewN ?_ _) | (with_reducible refine Grow.drew ?_) | (refine Grow.lit_at (by simp) (by rfl) (Nat.zero_le _) (by unfold maxLen; omega)))))); (unfold maxLen; omega); (omega); (first | omega | (simp <;> omega)); rintro A' c' w2 gA; have g1 := gA.1; have g2 := gA.2.1; rw [ints_snoc] at g1; have HG1 := Lib.hid g1; have hB2 : Below (w.heap.size + 1) (w.alloc (.cells #[.int .i64 W, .int .i64 H, .slice (some ⟨b, off, none⟩) s.length c, .slice (some ⟨b', off', none⟩) t.length d] 81)) w2 := Below.trans (by repeat (first | (with_reducible exact Below.refl _ _) | (with_reducible exact HB.out) | (with_reducible assumption) | ((with_reducible refine Below.alloc ?_ ?_ _); rotate_left; (first | omega | (simp <;> omega))) | ((with_reducible refine Below.setCell ?_ ?_ _); rotate_left; (first | omega | (simp <;> omega))) | (with_reducible refine below_drewN ?_ _) | (with_reducible refine Below.drew ?_) | ((with_reducible refine Below.step (by assumption) ?_ ?_); rotate_left; (first | omega | (simp <;> omega))))) g2; have HB2 := Lib.hid hB2; clear g1 g2 gA hB2)
          go_roundw
          case rel => exact ⟨n + 1, _, _, _, by omega, by go_num, rfl, by rw [HS2.out]; exact HG1.out, HB2.out⟩
          case measure => simp [intOf]; omega
        · have hy' : (y == 0) = false := by simp [hy]
          have y1 : 1 ≤ y := by omega
          have HS2 : Hid (resTo s t (n + 1) = resTo s t n ++ [x / y]) := by show _ = _; rw [HS.out]; unfold fdivF; rw [if_neg (by omega)]
          have z1 : 0 ≤ x / y := Int.ediv_nonneg (by omega) (by omega)
          have z2 : x / y ≤ x := Int.ediv_le_self _ (by omega)
          clear hy
          go_wp2_with (at_builtin; refine wpList_app (by rfl) _ _ 22 (by rfl) (w.heap.size + 1) 3 (.int .i64 0) 1 8 Try.underlying22 T.infoInt rfl (by decide) (xs := ints (resTo s t n)) (by rfl) ?_ (ys := ints [x / y]) (by rfl) ?_ (ints_one _) ?_ ?_ ?_ ?_; (exact (by repeat (first | (with_reducible exact HGr.out) | (with_reducible refine Grow.alloc ?_ _) | (with_reducible refine Grow.drewN ?_ _) | (with_reducible refine Grow.drew ?_) | ((with_reducible refine Grow.far ?_ ?_ _); rotate_left; (first | omega | (simp <;> omega))) | (with_reducible refine Grow.step (by assumption) ?_)))); (exact (Grow.rs (base := 0) (n := 1) (c := 1) (by repeat (first | (with_reducible refine Grow.drewN ?_ _) | (with_reducible refine Grow.drew ?_) | (refine Grow.lit_at (by simp) (by rfl) (Nat.zero_le _) (by unfold maxLen; omega)))))); (unfold maxLen; omega); (omega); (first | omega | (simp <;> omega)); rintro A' c' w2 gA; have g1 := gA.1; have g2 := gA.2.1; rw [ints_snoc] at g1; have HG1 := Lib.hid g1; have hB2 : Below (w.heap.size + 1) (w.alloc (.cells #[.int .i64 W, .int .i64 H, .slice (some ⟨b, off, none⟩) s.length c, .slice (some ⟨b', off', none⟩) t.length d] 81)) w2 := Below.trans (by repeat (first | (with_reducible exact Below.refl _ _) | (with_reducible exact HB.out) | (with_reducible assumption) | ((with_reducible refine Below.alloc ?_ ?_ _); rotate_left; (first | omega | (simp <;> omega))) | ((with_reducible refine Below.setCell ?_ ?_ _); rotate_left; (first | omega | (simp <;> omega))) | (with_reducible refine below_drewN ?_ _) | (with_reducible refine Below.drew ?_) | ((with_reducible refine Below.step (by assumption) ?_ ?_); rotate_left; (first | omega | (simp <;> omega))))) g2; have HB2 := Lib.hid hB2; clear g1 g2 gA hB2)
          go_roundw
          case rel => exact ⟨n + 1, _, _, _, by omega, by go_num, rfl, by rw [HS2.out]; exact HG1.out, HB2.out⟩
          case measure => simp [intOf]; omega
      · obtain rfl : n = s.length := by omega
        go_wp2
        rw [HV.out]
        go_ret
        rw [show (resTo s t s.length).length = s.length from resTo_len hL (Nat.le_refl _)]
        exact Grow.made HGr.out (by omega) (Below.trans (by repeat (first | (with_reducible exact Below.refl _ _) | (with_reducible assumption) | ((with_reducible refine Below.alloc ?_ ?_ _); rotate_left; (first | omega | (simp <;> omega))) | ((with_reducible refine Below.setCell ?_ ?_ _); rotate_left; (first | omega | (simp <;> omega))) | (with_reducible refine below_drewN ?_ _) | (with_reducible refine Below.drew ?_) | ((with_reducible refine Below.step (by assumption) ?_ ?_); rotate_left; (first | omega | (simp <;> omega))))) (HB.out.mono (by omega)))
set_option maxHeartbeats 4000000 in
theorem I_ResolveAccum {W H : Int} {A B : Option Addr} {c d : Nat} {s t : List Int} (w : World) (h : RS w 1 A s.length c (ints s)) (h' : RS w 1 B t.length d (ints t)) :
    Calls Try.prog 58 #[vAccum W H (.slice A s.length c) (.slice B t.length d)] w (MadeRow 3 1 (resF W H s t).length (ints (resF W H s t)) w) := by
  have hn := h.len
  have hn' := h'.len
  unfold maxLen at hn hn'
  have H0 := Lib.hid h
  have H0' := Lib.hid h'
  clear h h'
  cases hok : validAcc W H s t
  case false =>
    have HV : Hid (MadeRow 3 1 (resF W H s t).length (ints (resF W H s t)) w = MadeRow 3 1 0 [] w) := by show _ = _; unfold resF; rw [hok]; rfl
    go_enter Try.func58, Try.ntmps58
    go_wp2_with fail
    refine (I_IsValidAccum _ (RS.step (by repeat (first | (with_reducible exact Below.refl _ _) | (with_reducible assumption) | ((with_reducible refine Below.alloc ?_ ?_ _); rotate_left; (first | omega | (simp <;> omega))) | ((with_reducible refine Below.setCell ?_ ?_ _); rotate_left; (first | omega | (simp <;> omega))) | (with_reducible refine below_drewN ?_ _) | (with_reducible refine Below.drew ?_) | ((with_reducible refine Below.step (by assumption) ?_ ?_); rotate_left; (first | omega | (simp <;> omega))))) H0.out) (RS.step (by repeat (first | (with_reducible exact Below.refl _ _) | (with_reducible assumption) | ((with_reducible refine Below.alloc ?_ ?_ _); rotate_left; (first | omega | (simp <;> omega))) | ((with_reducible refine Below.setCell ?_ ?_ _); rotate_left; (first | omega | (simp <;> omega))) | (with_reducible refine below_drewN ?_ _) | (with_reducible refine Below.drew ?_) | ((with_reducible refine Below.step (by assumption) ?_ ?_); rotate_left; (first | omega | (simp <;> omega))))) H0'.out)).mono ?_
    rintro e w' ⟨rfl, hb⟩; have hz := hb.size; (try simp at hz); have c0 := fun o => hb.cell (p := ⟨w.heap.size, o, none⟩) (by first | omega | (simp <;> omega)); have f0 := fun o => hb.frozen (p := ⟨w.heap.size, o, none⟩) (by first | omega | (simp <;> omega)); have z0 : w.heap.size < w'.heap.size := (by omega)
    go_wp2
    rw [HV.out]
    go_ret
    exact MadeRow.none_ _ _ _ (by repeat (first | (with_reducible exact Below.refl _ _) | (with_reducible assumption) | ((with_reducible refine Below.alloc ?_ ?_ _); rotate_left; (first | omega | (simp <;> omega))) | ((with_reducible refine Below.setCell ?_ ?_ _); rotate_left; (first | omega | (simp <;> omega))) | (with_reducible refine below_drewN ?_ _) | (with_reducible refine Below.drew ?_) | ((with_reducible refine Below.step (by assumption) ?_ ?_); rotate_left; (first | omega | (simp <;> omega)))))
  case true =>
    have HV : Hid (MadeRow 3 1 (resF W H s t).length (ints (resF W H s t)) w = MadeRow 3 1 (resTo s t s.length).length (ints (resTo s t s.length)) w) := by show _ = _; unfold resF; rw [hok]; rfl
    obtain ⟨_, _, _, hlen, h144, _, _⟩ := validAcc_true hok
    have HG := Lib.hid (fun k h1 h2 => validAcc_get hok (k := k) h1 h2)
    have HL := Lib.hid hlen
    clear hlen
    go_enter Try.func58, Try.ntmps58
    go_wp2_with fail
    refine (I_IsValidAccum _ (RS.step (by repeat (first | (with_reducible exact Below.refl _ _) | (with_reducible assumption) | ((with_reducible refine Below.alloc ?_ ?_ _); rotate_left; (first | omega | (simp <;> omega))) | ((with_reducible refine Below.setCell ?_ ?_ _); rotate_left; (first | omega | (simp <;> omega))) | (with_reducible refine below_drewN ?_ _) | (with_reducible refine Below.drew ?_) | ((with_reducible refine Below.step (by assumption) ?_ ?_); rotate_left; (first | omega | (simp <;> omega))))) H0.out) (RS.step (by repeat (first | (with_reducible exact Below.refl _ _) | (with_reducible assumption) | ((with_reducible refine Below.alloc ?_ ?_ _); rotate_left; (first | omega | (simp <;> omega))) | ((with_reducible refine Below.setCell ?_ ?_ _); rotate_left; (first | omega | (simp <;> omega))) | (with_reducible refine below_drewN ?_ _) | (with_reducible refine Below.drew ?_) | ((with_reducible refine Below.step (by assumption) ?_ ?_); rotate_left; (first | omega | (simp <;> omega))))) H0'.out)).mono ?_
    rintro e w1 ⟨rfl, hb⟩
    have hz := hb.size
    (try simp at hz)
    have hB1 : Below (w.heap.size + 1) (w.alloc (.cells #[.int .i64 W, .int .i64 H, .slice A s.length c, .slice B t.length d] 81)) w1 := hb.mono (by simp)
    have HG0 : Hid (Grow (w1.alloc (.cells #[] 3)) (w.heap.size + 1) 3 1 (some ⟨w1.heap.size, 0, none⟩) 0 0 []) := Grow.lit w1 #[] 0 rfl (by omega) (Nat.zero_le _)
    have HB1 := Lib.hid (Below.alloc hB1 (by omega) (.cells #[] 3))
    obtain ⟨c1, f1⟩ := bcell hB1
    have zz : w.heap.size < w1.heap.size := by omega
    clear hb hB1
    go_wp2_with fail
    clear c1 f1
    go_loopw [3, 4, 5, 13] (fun o _ _ i wr => ∃ (k : Nat) (C : Option Addr) (n q : Nat), k ≤ s.length ∧ i = .int .i64 k ∧ o = .slice C n q ∧ Grow wr (w.heap.size + 1) 3 1 C n q (ints (resTo s t k)) ∧ Below (w.heap.size + 1) (w.alloc (.cells #[.int .i64 W, .int .i64 H, .slice A s.length c, .slice B t.length d] 81)) wr) (fun _ _ _ i _ => s.length - (intOf i).toNat)
    case atStart => exact ⟨0, _, _, _, Nat.zero_le _, rfl, rfl, HG0.out, HB1.out⟩
    case round =>
      obtain ⟨k, C, n, q, hk, rfl, rfl, hg, hb⟩ := hrel
      have hL := HL.out
      have hn : n = k := by have := hg.len; simp at this; rw [resTo_len hL (by omega)] at this; omega
      have hbw : Below w.heap.size w wr := Below.trans (by repeat (first | (with_reducible exact Below.refl _ _) | (with_reducible assumption) | ((with_reducible refine Below.alloc ?_ ?_ _); rotate_left; (first | omega | (simp <;> omega))) | ((with_reducible refine Below.setCell ?_ ?_ _); rotate_left; (first | omega | (simp <;> omega))) | (with_reducible refine below_drewN ?_ _) | (with_reducible refine Below.drew ?_) | ((with_reducible refine Below.step (by assumption) ?_ ?_); rotate_left; (first | omega | (simp <;> omega))))) (hb.mono (by omega))
      subst hn
      have HGr := Lib.hid hg
      have HB := Lib.hid hb
      have HR := Lib.hid (RS.step hbw H0.out)
      have HR' := Lib.hid (RS.step hbw H0'.out)
      have hsz := hb.size
      (try simp at hsz)
      obtain ⟨cb, fb⟩ := bcell hb
      have cb2 : wr.cell? ⟨w.heap.size, 3, none⟩ = some (.slice B t.length d) := by rw [cb _ _ (by omega)]; simp
      clear hg hb hbw cb fb
      by_cases hlt' : n < s.length
      · have hlt : n < t.length := by omega
        obtain ⟨b, off, rfl, hbh, hcell⟩ := HR.out.open_.2.2 (by omega)
        obtain ⟨b', off', rfl, hbh', hcell'⟩ := HR'.out.open_.2.2 (by omega)
        have d1 : wr.cell? ⟨b, off + n, none⟩ = some (.int .i64 s[n]) := by rw [hcell n (by omega), ints_at hlt']
        have d2 : wr.cell? ⟨b', off' + n, none⟩ = some (.int .i64 t[n]) := by rw [hcell' n (by omega), ints_at hlt]
        have i1 : (0 : Int) ≤ n := by omega
        have i2 : (n : Int) < t.length := by omega
        obtain ⟨⟨x1, x2⟩, x3, x4⟩ := HG.out n hlt' hlt
        have HS := Lib.hid (resTo_succ hlt' hlt)
        clear hcell hcell' hL
        generalize s[n] = x at *
        generalize t[n] = y at *
        go_wp2_with (first | (go_at_call 106; refine (I_FloorDiv _ (by omega) (by omega)).mono ?_; rintro e w' ⟨rfl, rfl⟩) | (at_builtin; refine wpList_app (by rfl) _ _ 22 (by rfl) (w.heap.size + 1) 3 (.int .i64 0) 1 8 Try.underlying22 T.infoInt rfl (by decide) (xs := ints (resTo s t n)) (by rfl) ?_ (ys := ints [fdivF x y]) (by rfl) ?_ (ints_one _) ?_ ?_ ?_ ?_; (exact (by repeat (first | (with_reducible exact HGr.out) | (with_reducible refine Grow.alloc ?_ _) | (with_reducible refine Grow.drewN ?_ _) | (with_reducible refine Grow.drew ?_) | ((with_reducible refine Grow.far ?_ ?_ _); rotate_left; (first | omega | (simp <;> omega))) | (with_reducible refine Grow.step (by assumption) ?_)))); (exact (Grow.rs (base := 0) (n := 1) (c := 1) (by repeat (first | (with_reducible refine Grow.drewN ?_ _) | (with_reducible refine Grow.drew ?_) | (refine Grow.lit_at (by simp) (by rfl) (Nat.zero_le _) (by unfold maxLen; omega)))))); (unfold maxLen; omega); (omega); (first | omega | (simp <;> omega)); rintro A' c' w2 gA; have g1 := gA.1; have g2 := gA.2.1; rw [ints_snoc] at g1; have HG1 := Lib.hid g1; have hB2 : Below (w.heap.size + 1) (w.alloc (.cells #[.int .i64 W, .int .i64 H, .slice (some ⟨b, off, none⟩) s.length c, .slice (some ⟨b', off', none⟩) t.length d] 81)) w2 := Below.trans (by repeat (first | (with_reducible exact Below.refl _ _) | (with_reducible exact HB.out) | (with_reducible assumption) | ((with_reducible refine Below.alloc ?_ ?_ _); rotate_left; (first | omega | (simp <;> omega))) | ((with_reducible refine Below.setCell ?_ ?_ _); rotate_left; (first | omega | (simp <;> omega))) | (with_reducible refine below_drewN ?_ _) | (with_reducible refine Below.drew ?_) | ((with_reducible refine Below.step (by assumption) ?_ ?_); rotate_left; (first | omega | (simp <;> omega))))) g2; have HB2 := Lib.hid hB2; clear g1 g2 gA hB2))
        go_roundw
        case rel => exact ⟨n + 1, _, _, _, by omega, by go_num, rfl, by rw [HS.out]; exact HG1.out, HB2.out⟩
        case measure => simp [intOf]; omega
      · obtain rfl : n = s.length := by omega
        go_wp2
        rw [HV.out]
        go_ret
        rw [show (resTo s t s.length).length = s.length from resTo_len hL (Nat.le_refl _)]
        exact Grow.made HGr.out (by omega) (Below.trans (by repeat (first | (with_reducible exact Below.refl _ _) | (with_reducible assumption) | ((with_reducible refine Below.alloc ?_ ?_ _); rotate_left; (first | omega | (simp <;> omega))) | ((with_reducible refine Below.setCell ?_ ?_ _); rotate_left; (first | omega | (simp <;> omega))) | (with_reducible refine below_drewN ?_ _) | (with_reducible refine Below.drew ?_) | ((with_reducible refine Below.step (by assumption) ?_ ?_); rotate_left; (first | omega | (simp <;> omega))))) (HB.out.mono (by omega)))
end Go.Proofs.Ytndipkclmecpoaa
