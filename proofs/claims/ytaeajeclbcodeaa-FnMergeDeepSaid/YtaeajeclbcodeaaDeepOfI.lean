/- MADE BY PROGRAM (gendeepi.py). DeepOf of the program. -/
import Derived.Test.YtaeajeclbcodeaaInsI
import Derived.Test.YtaeajeclbcodeaaMerge
namespace Go.Proofs.Ytaeajeclbcodeaa
open Go.RowKit
set_option linter.unusedVariables false
set_option maxRecDepth 100000
set_option maxHeartbeats 1000000 in
theorem I_fragments (w : World) : Calls Try.prog 45 #[] w fun e w' => e = .returned (.pointer (some ⟨w.heap.size, 0, none⟩)) ∧ w' = w.alloc (.cells #[.slice none 0 0, .func (.func 72) #[] #[]] 82) := by
  go_enter Try.func45, Try.ntmps45
  go_wp2
  go_ret
  exact ⟨rfl, rfl⟩
set_option maxHeartbeats 4000000 in
theorem I_deeper {A : Option Addr} {c base : Nat} {l : List EDeepStep} {d v : Int} (w : World) (h64 : l.length ≤ 64) (hbase : base ≤ w.heap.size) (h : Grow w base 61 2 A l.length c (rDeepStep l)) :
    Calls Try.prog 41 #[.slice A l.length c, .int .i64 d, .int .i64 v] w fun e w' => ∃ A' c', e = .returned (.slice A' (deeperF l d v).length c') ∧ Grow w' base 61 2 A' (deeperF l d v).length c' (rDeepStep (deeperF l d v)) ∧ Below base w w' := by
  have HG := Lib.hid h
  clear h
  by_cases h1 : v < lastWt l
  · by_cases h2 : l.length < 64
    · have HD : Hid (deeperF l d v = l ++ [(d, v)]) := by show _ = _; unfold deeperF; rw [if_pos (by simp [h1]; omega)]
      have h2' : (l.length : Int) < 64 := by omega
      go_enter Try.func41, Try.ntmps41
      go_wp2_with (first | (go_at_call 69; refine (I_lastWeight _ rfl HG.out.rs).mono ?_; rintro e w' ⟨rfl, rfl⟩) | (at_builtin; refine wpList_app (by rfl) _ _ 37 (by rfl) (base) 61 (.agg #[.int .i64 0, .int .i64 0]) 2 16 Try.underlying37 T.infoDeepStep rfl (by decide) (xs := rDeepStep l) (by rfl) ?_ (ys := rDeepStep [(d, v)]) (by rfl) ?_ (rDeepStep_one _) ?_ ?_ ?_ ?_; (exact (by repeat (first | (with_reducible exact HG.out) | (with_reducible refine Grow.alloc ?_ _) | (with_reducible refine Grow.drewN ?_ _) | (with_reducible refine Grow.drew ?_) | ((with_reducible refine Grow.far ?_ ?_ _); rotate_left; (first | omega | (simp <;> omega))) | (with_reducible refine Grow.step (by assumption) ?_)))); (exact (Grow.rs (base := 0) (n := 1) (c := 1) (by repeat (first | (with_reducible refine Grow.drewN ?_ _) | (with_reducible refine Grow.drew ?_) | (refine Grow.lit_at (by simp) (by rfl) (Nat.zero_le _) (by unfold maxLen; omega)))))); (unfold maxLen; omega); (omega); (first | omega | (simp <;> omega)); rintro A' c' w2 gA))
      go_ret
      have g1 := gA.1
      rw [rDeepStep_snoc, ← HD.out] at g1
      have hL : l.length + 1 = (deeperF l d v).length := by rw [HD.out]; simp
      rw [← hL]
      exact ⟨A', c', rfl, g1, Below.trans (Below.alloc (Below.refl _ _) hbase _) gA.2.1⟩
    · have HD : Hid (deeperF l d v = l) := by show _ = _; unfold deeperF; rw [if_neg (by simp; omega)]
      have h2' : ¬ (l.length : Int) < 64 := by omega
      go_enter Try.func41, Try.ntmps41
      go_wp2_with (first | (go_at_call 69; refine (I_lastWeight _ rfl HG.out.rs).mono ?_; rintro e w' ⟨rfl, rfl⟩))
      go_ret
      rw [HD.out]
      exact ⟨A, c, rfl, HG.out, Below.refl _ _⟩
  · have HD : Hid (deeperF l d v = l) := by show _ = _; unfold deeperF; rw [if_neg (by simp [h1])]
    go_enter Try.func41, Try.ntmps41
    go_wp2_with (first | (go_at_call 69; refine (I_lastWeight _ rfl HG.out.rs).mono ?_; rintro e w' ⟨rfl, rfl⟩))
    go_ret
    rw [HD.out]
    exact ⟨A, c, rfl, HG.out, Below.refl _ _⟩
set_option maxHeartbeats 16000000 in
theorem I_deepOf {P : Option Addr} {d : Nat} {q : List EFragment} (w : World) (hql : q.length ≤ 1048576) (h : RS w 5 P q.length d (rFragment q)) :
    Calls Try.prog 48 #[.slice P q.length d] w (MadeRow 61 2 (outI q q.length).length (rDeepStep (outI q q.length)) w) := by
  have HR := Lib.hid h
  clear h
  have HG0 : Hid (Grow (w.alloc (.cells #[] 61)) w.heap.size 61 2 (some ⟨w.heap.size, 0, none⟩) 0 0 (rDeepStep (outI q 0))) := Grow.lit_at (cs := #[]) rfl rfl (Nat.le_refl _) (Nat.zero_le _)
  go_enter Try.func48, Try.ntmps48
  go_wp2_with fail
  go_loopw [3, 4, 5, 6, 10] (fun t v _ _ i wr => ∃ (k : Nat) (Q : Option Addr) (n d : Nat), k ≤ q.length ∧ i = .int .i64 k ∧ t = .slice Q n d ∧ v = .int .i64 (wAt q k) ∧ Grow wr w.heap.size 61 2 Q n d (rDeepStep (outI q k)) ∧ Below w.heap.size w wr) (fun _ _ _ _ i _ => q.length - (intOf i).toNat)
  case atStart => exact ⟨0, _, _, _, Nat.zero_le _, rfl, rfl, rfl, HG0.out, (by repeat (first | (with_reducible exact Below.refl _ _) | (with_reducible assumption) | ((with_reducible refine Below.alloc ?_ ?_ _); rotate_left; (first | omega | (simp <;> omega))) | ((with_reducible refine Below.setCell ?_ ?_ _); rotate_left; (first | omega | (simp <;> omega))) | (with_reducible refine below_drewN ?_ _) | (with_reducible refine Below.drew ?_) | ((with_reducible refine Below.step (by assumption) ?_ ?_); rotate_left; (first | omega | (simp <;> omega)))))⟩
  case round =>
    obtain ⟨k, Q, n, d2, hk, rfl, rfl, rfl, hg, hb⟩ := hrel
    have hz := hb.size
    have hnl : n = (outI q k).length := by have := hg.len; rw [rDeepStep_len] at this; omega
    have h64 := outI_len q k
    subst hnl
    have HGr := Lib.hid hg
    have HB2 := Lib.hid hb
    have HQ := Lib.hid (RS.step hb HR.out)
    have y0' : IntKind.i64.wrap ((k : Int) + 1) = (k : Int) + 1 := IntWalk.i64_in _ (by omega)
    have i1 : (0 : Int) ≤ k := by omega
    clear hg hb
    by_cases hlt : k < q.length
    · obtain ⟨b, o, rfl, hbh, hcell⟩ := HQ.out.open_.2.2 (by omega)
      obtain ⟨q0, q1, q2, q3, q4⟩ := rFragment_at (l := q) hlt
      have d0 : wr.cell? ⟨b, o + k * 5, none⟩ = some (.int .i64 q[k].1) := by rw [hcell _ (by omega), q0]
      have d1 : wr.cell? ⟨b, o + k * 5 + 1, none⟩ = some (.int .i64 q[k].2.1) := by rw [show o + k * 5 + 1 = o + (k * 5 + 1) by omega, hcell _ (by omega), q1]
      have d2 : wr.cell? ⟨b, o + k * 5 + 2, none⟩ = some (.int .i64 q[k].2.2.1) := by rw [show o + k * 5 + 2 = o + (k * 5 + 2) by omega, hcell _ (by omega), q2]
      have d3 : wr.cell? ⟨b, o + k * 5 + 3, none⟩ = some (.int .i64 q[k].2.2.2.1) := by rw [show o + k * 5 + 3 = o + (k * 5 + 3) by omega, hcell _ (by omega), q3]
      have d4 : wr.cell? ⟨b, o + k * 5 + 4, none⟩ = some (.int .i64 q[k].2.2.2.2) := by rw [show o + k * 5 + 4 = o + (k * 5 + 4) by omega, hcell _ (by omega), q4]
      have HNX : Hid (∀ h : k + 1 < q.length, wr.cell? ⟨b, o + (k + 1) * 5, none⟩ = some (.int .i64 (q[k + 1]'h).1)) := fun h => by rw [hcell _ (by omega), (rFragment_at (l := q) h).1]
      have i2 : (k : Int) < q.length := by omega
      have HREL : Hid (k + 1 ≤ q.length) := hlt
      have HFK := Lib.hid (fAt_at hlt)
      have HFX : Hid (∀ h : k + 1 < q.length, fAt q (k + 1) = q[k + 1]'h) := fun h => fAt_at h
      obtain ⟨v0, v1⟩ := wAt_rng q k
      have HW : Hid (wAt q (k + 1) = wAt q k - Int.tdiv (wAt q k * clampF q[k].2.2.2.2 0 256) 256) := by show _ = _; rw [wAt, wStep, fAt_at hlt]; rfl
      obtain ⟨c0, c1⟩ := clamp_rng q[k].2.2.2.2
      obtain ⟨p0, p1, p2, p3⟩ := wPart v0 v1 c0 c1
      have HOUT : Hid (outI q (k + 1) = if endI q k then deeperF (outI q k) (q[k]).1 (wAt q (k + 1)) else outI q k) := by show _ = _; rw [outI, HFK.out]; rfl
      clear hcell q0 q1 q2 q3 q4
      have HEND : Hid (endI q k = (decide (k + 1 = q.length) || decide ((q[k]).1 < (fAt q (k + 1)).1))) := by show _ = _; rw [endI, HFK.out]; rfl
      generalize q[k] = x at *
      generalize hV1 : wAt q (k + 1) = V1 at *
      have HWV := Lib.hid hV1
      clear hV1
      generalize wAt q k = V at *
      have y1' : IntKind.i64.wrap (V * clampF x.2.2.2.2 0 256) = V * clampF x.2.2.2.2 0 256 := IntWalk.i64_in _ (by omega)
      have y2' : IntKind.i64.wrap (Int.tdiv (V * clampF x.2.2.2.2 0 256) 256) = Int.tdiv (V * clampF x.2.2.2.2 0 256) 256 := IntWalk.i64_in _ (by omega)
      have y3' : IntKind.i64.wrap (V - Int.tdiv (V * clampF x.2.2.2.2 0 256) 256) = V - Int.tdiv (V * clampF x.2.2.2.2 0 256) 256 := IntWalk.i64_in _ (by omega)
      go_wp2_with (go_at_call 73; refine (I_Clamp _ _ _ _).mono ?_; rintro e w' ⟨rfl, rfl⟩)
      rw [← HW.out]
      clear y1' y2' y3' p0 p1 p2 p3 c0 c1
      by_cases hend : k + 1 = q.length
      · have hE : endI q k = true := by rw [HEND.out]; simp [hend]
        rw [hE] at HOUT
        have HO2 : Hid (outI q (k + 1) = deeperF (outI q k) x.1 V1) := HOUT.out
        have e1 : ((k : Int) + 1 == (q.length : Int)) = true := by rw [beq_iff_eq]; omega
        clear hend hE
        go_quiet (fail)
        go_wp2_with fail
        refine (I_deeper (l := outI q k) (base := w.heap.size) _ h64 (by simp; omega) (by repeat (first | (with_reducible exact HGr.out) | (with_reducible refine Grow.alloc ?_ _) | (with_reducible refine Grow.drewN ?_ _) | (with_reducible refine Grow.drew ?_) | ((with_reducible refine Grow.far ?_ ?_ _); rotate_left; (first | omega | (simp <;> omega))) | (with_reducible refine Grow.step (by assumption) ?_)))).mono ?_
        rintro e w5 ⟨P5, c5, rfl, hg5, hb5⟩
        have hB5 : Below w.heap.size w w5 := Below.trans (by repeat (first | (with_reducible exact Below.refl _ _) | (with_reducible exact HB2.out) | (with_reducible assumption) | ((with_reducible refine Below.alloc ?_ ?_ _); rotate_left; (first | omega | (simp <;> omega))) | ((with_reducible refine Below.setCell ?_ ?_ _); rotate_left; (first | omega | (simp <;> omega))) | (with_reducible refine below_drewN ?_ _) | (with_reducible refine Below.drew ?_) | ((with_reducible refine Below.step (by assumption) ?_ ?_); rotate_left; (first | omega | (simp <;> omega))))) hb5
        have HB5 := Lib.hid hB5
        have HG5 := Lib.hid hg5
        clear hg5 hb5 hB5
        go_wp2_with fail
        go_roundw
        case rel => exact ⟨k + 1, P5, _, c5, HREL.out, by go_num, rfl, by rw [HWV.out], by rw [HO2.out]; exact HG5.out, HB5.out⟩
        case measure => simp [intOf]; omega
      · have hk1 : k + 1 < q.length := by omega
        have x1 := HNX.out hk1
        have hfx := HFX.out hk1
        rw [hfx] at HEND
        have e1 : ((k : Int) + 1 == (q.length : Int)) = false := by rw [beq_eq_false_iff_ne]; omega
        have i3 : (k : Int) + 1 < q.length := by omega
        have i4 : (0 : Int) ≤ (k : Int) + 1 := by omega
        have i5 : ((k : Int) + 1).toNat = k + 1 := by omega
        clear hfx
        generalize (q[k + 1]'hk1).1 = z at *
        by_cases hne : x.1 < z
        · have hE : endI q k = true := by rw [HEND.out]; simp [hend, hne]
          rw [hE] at HOUT
          have HO2 : Hid (outI q (k + 1) = deeperF (outI q k) x.1 V1) := HOUT.out
          clear hend hE
          go_quiet (fail)
          go_wp2_with fail
          refine (I_deeper (l := outI q k) (base := w.heap.size) _ h64 (by simp; omega) (by repeat (first | (with_reducible exact HGr.out) | (with_reducible refine Grow.alloc ?_ _) | (with_reducible refine Grow.drewN ?_ _) | (with_reducible refine Grow.drew ?_) | ((with_reducible refine Grow.far ?_ ?_ _); rotate_left; (first | omega | (simp <;> omega))) | (with_reducible refine Grow.step (by assumption) ?_)))).mono ?_
          rintro e w5 ⟨P5, c5, rfl, hg5, hb5⟩
          have hB5 : Below w.heap.size w w5 := Below.trans (by repeat (first | (with_reducible exact Below.refl _ _) | (with_reducible exact HB2.out) | (with_reducible assumption) | ((with_reducible refine Below.alloc ?_ ?_ _); rotate_left; (first | omega | (simp <;> omega))) | ((with_reducible refine Below.setCell ?_ ?_ _); rotate_left; (first | omega | (simp <;> omega))) | (with_reducible refine below_drewN ?_ _) | (with_reducible refine Below.drew ?_) | ((with_reducible refine Below.step (by assumption) ?_ ?_); rotate_left; (first | omega | (simp <;> omega))))) hb5
          have HB5 := Lib.hid hB5
          have HG5 := Lib.hid hg5
          clear hg5 hb5 hB5
          go_wp2_with fail
          go_roundw
          case rel => exact ⟨k + 1, P5, _, c5, HREL.out, by go_num, rfl, by rw [HWV.out], by rw [HO2.out]; exact HG5.out, HB5.out⟩
          case measure => simp [intOf]; omega
        · have hE : endI q k = false := by rw [HEND.out]; simp [hend, hne]
          rw [hE] at HOUT
          have HO2 : Hid (outI q (k + 1) = outI q k) := HOUT.out
          clear hend hE
          go_quiet (fail)
          go_wp2_with fail
          go_roundw
          case rel => exact ⟨k + 1, _, _, _, HREL.out, by go_num, rfl, by rw [HWV.out], by rw [HO2.out]; exact (by repeat (first | (with_reducible exact HGr.out) | (with_reducible refine Grow.alloc ?_ _) | (with_reducible refine Grow.drewN ?_ _) | (with_reducible refine Grow.drew ?_) | ((with_reducible refine Grow.far ?_ ?_ _); rotate_left; (first | omega | (simp <;> omega))) | (with_reducible refine Grow.step (by assumption) ?_))), (by repeat (first | (with_reducible exact Below.refl _ _) | (with_reducible exact HB2.out) | (with_reducible assumption) | ((with_reducible refine Below.alloc ?_ ?_ _); rotate_left; (first | omega | (simp <;> omega))) | ((with_reducible refine Below.setCell ?_ ?_ _); rotate_left; (first | omega | (simp <;> omega))) | (with_reducible refine below_drewN ?_ _) | (with_reducible refine Below.drew ?_) | ((with_reducible refine Below.step (by assumption) ?_ ?_); rotate_left; (first | omega | (simp <;> omega)))))⟩
          case measure => simp [intOf]; omega
    · obtain rfl : k = q.length := by omega
      go_wp2_with fail
      go_ret
      exact Grow.made HGr.out (Nat.le_refl _) HB2.out
set_option maxHeartbeats 16000000 in
theorem I_DeepOf {A : Option Addr} {c : Nat} {l : List EFragment} (w : World) (hs : l.length ≤ 1048576) (h : RS w 5 A l.length c (rFragment l)) :
    Calls Try.prog 19 #[.slice A l.length c] w (MadeRow 61 2 (deepF l).length (rDeepStep (deepF l)) w) := by
  have H0 := Lib.hid h
  have hcm := h.len
  unfold maxLen at hcm
  clear h
  have HDF := Lib.hid (deepF_I l)
  have HG0 : Hid (Grow (w.alloc (.cells #[.slice none 0 0, .func (.func 72) #[] #[]] 82)) (w.heap.size + 1) 48 5 none 0 0 (rFragment (sortTo l 0))) := Grow.nil _ _ _ _
  have HO0 : Hid (Own (w.alloc (.cells #[.slice none 0 0, .func (.func 72) #[] #[]] 82)) w.heap.size 82 (ordCells none 0 0)) := Own.new _ _ _
  go_enter Try.func19, Try.ntmps19
  go_wp2_with fail
  refine (I_fragments _).mono ?_
  rintro e w1 ⟨rfl, rfl⟩
  go_wp2_with fail
  go_loopw [5, 9] (fun _ i wr => ∃ (k : Nat) (P : Option Addr) (d : Nat), k ≤ l.length ∧ i = .int .i64 k ∧ Own wr w.heap.size 82 (ordCells P (sortTo l k).length d) ∧ Grow wr (w.heap.size + 1) 48 5 P (sortTo l k).length d (rFragment (sortTo l k)) ∧ Below w.heap.size w wr) (fun _ i _ => l.length - (intOf i).toNat)
  case atStart => exact ⟨0, _, _, Nat.zero_le _, rfl, HO0.out, HG0.out, (by repeat (first | (with_reducible exact Below.refl _ _) | (with_reducible assumption) | ((with_reducible refine Below.alloc ?_ ?_ _); rotate_left; (first | omega | (simp <;> omega))) | ((with_reducible refine Below.setCell ?_ ?_ _); rotate_left; (first | omega | (simp <;> omega))) | (with_reducible refine below_drewN ?_ _) | (with_reducible refine Below.drew ?_) | ((with_reducible refine Below.step (by assumption) ?_ ?_); rotate_left; (first | omega | (simp <;> omega)))))⟩
  case round =>
    obtain ⟨k, P, d, hk, rfl, ho, hg, hb⟩ := hrel
    have hz := hb.size
    have hol := ho.lt
    obtain ⟨hsl, hso, hsi⟩ := sortTo_rng (l := l) k hk
    have HO := Lib.hid ho
    have HGr := Lib.hid hg
    have HB := Lib.hid hb
    have HA := Lib.hid (RS.step hb H0.out)
    have g0 := ho.cell 0
    simp only [ordCells, List.getElem?_cons_zero] at g0
    have y0' : IntKind.i64.wrap ((k : Int) + 1) = (k : Int) + 1 := IntWalk.i64_in _ (by omega)
    have i1 : (0 : Int) ≤ k := by omega
    clear ho hg hb hso hsi
    by_cases hlt : k < l.length
    · obtain ⟨ba, oa, rfl, hbh, hcell⟩ := HA.out.open_.2.2 (by omega)
      obtain ⟨q0, q1, q2, q3, q4⟩ := rFragment_at (l := l) hlt
      have d0 : wr.cell? ⟨ba, oa + k * 5, none⟩ = some (.int .i64 l[k].1) := by rw [hcell _ (by omega), q0]
      have d1 : wr.cell? ⟨ba, oa + k * 5 + 1, none⟩ = some (.int .i64 l[k].2.1) := by rw [show oa + k * 5 + 1 = oa + (k * 5 + 1) by omega, hcell _ (by omega), q1]
      have d2 : wr.cell? ⟨ba, oa + k * 5 + 2, none⟩ = some (.int .i64 l[k].2.2.1) := by rw [show oa + k * 5 + 2 = oa + (k * 5 + 2) by omega, hcell _ (by omega), q2]
      have d3 : wr.cell? ⟨ba, oa + k * 5 + 3, none⟩ = some (.int .i64 l[k].2.2.2.1) := by rw [show oa + k * 5 + 3 = oa + (k * 5 + 3) by omega, hcell _ (by omega), q3]
      have d4 : wr.cell? ⟨ba, oa + k * 5 + 4, none⟩ = some (.int .i64 l[k].2.2.2.2) := by rw [show oa + k * 5 + 4 = oa + (k * 5 + 4) by omega, hcell _ (by omega), q4]
      have i2 : (k : Int) < l.length := by omega
      have HS := Lib.hid (sortTo_succ hlt)
      have HREL : Hid (k + 1 ≤ l.length) := hlt
      clear hcell q0 q1 q2 q3 q4
      generalize l[k] = x at *
      cases hx : inB x.1 (-1000000) 1000000
      case true =>
        have HS2 : Hid (sortTo l (k + 1) = insF x (sortTo l k)) := by show _ = _; rw [HS.out]; unfold sortStep; rw [hx]; rfl
        go_wp2_with (go_at_call 46; refine (I_within _ _ _ _).mono ?_; rintro e w' ⟨rfl, rfl⟩)
        refine (I_insert (f := x) _ (by omega) (Own.alloc HO.out _) (Grow.alloc HGr.out _)).mono ?_
        rintro e w5 ⟨rfl, P5, c5, ho5, hg5, hb5⟩
        have hB5 : Below w.heap.size w w5 := Below.trans (Below.alloc HB.out hz _) hb5
        have HB5 := Lib.hid hB5
        have HO5 := Lib.hid ho5
        have HG5 := Lib.hid hg5
        clear ho5 hg5 hb5 hB5
        go_wp2_with fail
        go_roundw
        case rel => exact ⟨k + 1, P5, c5, HREL.out, by go_num, by rw [HS2.out]; exact HO5.out, by rw [HS2.out]; exact HG5.out, HB5.out⟩
        case measure => simp [intOf]; omega
      case false =>
        have HS2 : Hid (sortTo l (k + 1) = sortTo l k) := by show _ = _; rw [HS.out]; unfold sortStep; rw [hx]; rfl
        go_wp2_with (go_at_call 46; refine (I_within _ _ _ _).mono ?_; rintro e w' ⟨rfl, rfl⟩)
        go_roundw
        case rel => exact ⟨k + 1, P, d, HREL.out, by go_num, by rw [HS2.out]; exact (by repeat (first | (with_reducible exact HO.out) | ((with_reducible refine Own.far ?_ ?_ _); rotate_left; (first | omega | (simp <;> omega))) | (with_reducible refine Own.alloc ?_ _) | (with_reducible refine Own.drewN ?_ _) | (with_reducible refine Own.drew ?_) | (with_reducible refine Own.step (by assumption) ?_))), by rw [HS2.out]; exact (by repeat (first | (with_reducible exact HGr.out) | (with_reducible refine Grow.alloc ?_ _) | (with_reducible refine Grow.drewN ?_ _) | (with_reducible refine Grow.drew ?_) | ((with_reducible refine Grow.far ?_ ?_ _); rotate_left; (first | omega | (simp <;> omega))) | (with_reducible refine Grow.step (by assumption) ?_))), (by repeat (first | (with_reducible exact Below.refl _ _) | (with_reducible exact HB.out) | (with_reducible assumption) | ((with_reducible refine Below.alloc ?_ ?_ _); rotate_left; (first | omega | (simp <;> omega))) | ((with_reducible refine Below.setCell ?_ ?_ _); rotate_left; (first | omega | (simp <;> omega))) | (with_reducible refine below_drewN ?_ _) | (with_reducible refine Below.drew ?_) | ((with_reducible refine Below.step (by assumption) ?_ ?_); rotate_left; (first | omega | (simp <;> omega)))))⟩
        case measure => simp [intOf]; omega
    · obtain rfl : k = l.length := by omega
      go_wp2_with fail
      refine (I_deepOf _ (by omega) HGr.out.rs).mono ?_
      rintro e w5 ⟨P5, pc, rfl, po, pge, hb5⟩
      go_wp2_with fail
      go_ret
      rw [HDF.out]
      exact ⟨P5, pc, rfl, po, fun x hx => by have := pge x hx; omega, HB.out.trans (hb5.mono hz)⟩
end Go.Proofs.Ytaeajeclbcodeaa
