/- MADE BY PROGRAM (gendeep.py). DeepOf of the reference. -/
import Derived.Test.YthfnldjldfkmnaaFragS
import Derived.Test.YthfnldjldfkmnaaMerge
namespace Go.Proofs.Ythfnldjldfkmnaa
open Go.RowKit
set_option linter.unusedVariables false
set_option maxRecDepth 100000
set_option maxHeartbeats 1000000 in
theorem S_cut_no {A : Option Addr} {n c : Nat} (w : World) (hn : n ≤ 64) : Calls Try.prog 130 #[.slice A n c] w fun e w' => e = .returned (.slice A n c) ∧ w = w' := by
  have h1 : ¬ (64 : Int) < (n : Int) := by omega
  go_enter Try.func130, Try.ntmps130
  go_wp2
  go_ret
  exact ⟨rfl, rfl⟩
set_option maxHeartbeats 2000000 in
theorem S_cut_yes {b o c : Nat} {l : List EDeepStep} (w : World) (hn : 64 < l.length) (h : RS w 2 (some ⟨b, o, none⟩) l.length c (rDeepStep l)) :
    Calls Try.prog 130 #[.slice (some ⟨b, o, none⟩) l.length c] w (MadeRow 161 2 (l.take 64).length (rDeepStep (l.take 64)) w) := by
  have h1 : (64 : Int) < (l.length : Int) := by omega
  have hlc := h.open_.1
  have hcm := h.open_.2.1
  unfold maxLen at hcm
  have HR : Hid (∀ wx, Below w.heap.size w wx → RS wx 2 (some ⟨b, o, none⟩) 64 c (rDeepStep (l.take 64))) := fun wx hx => by
    have := RS.part (RS.step hx h) rfl 0 64 c (Nat.zero_le _) (by omega) (by omega) (by unfold maxLen; omega)
    rw [rDeepStep_take]
    simpa using this
  have HL : Hid ((l.take 64).length = 64) := by show _ = _; rw [List.length_take]; omega
  have hc2 : (64 : Int) ≤ (c : Int) := by omega
  clear h
  go_enter Try.func130, Try.ntmps130
  go_wp2_with (at_builtin; refine wpList_app (by rfl) _ _ 79 (by rfl) (w.heap.size) 161 (.agg #[.int .i64 0, .int .i64 0]) 2 16 Try.underlying79 T.infoDeepStep rfl (by decide) (xs := []) (by rfl) ?_ (ys := rDeepStep (l.take 64)) (by rfl) ?_ (rDeepStep_one _) ?_ ?_ ?_ ?_; (exact (by repeat (first | (with_reducible assumption) | (with_reducible refine Grow.drewN ?_ _) | (with_reducible refine Grow.drew ?_) | ((with_reducible refine Grow.app (by assumption) ?_ ?_); rotate_left; (intro x hx hy; simp [gOf] at hx hy; omega)) | ((refine Grow.lit_at ?_ (by rfl) ?_ (Nat.zero_le _)); (focus (simp; done)); (first | omega | (simp <;> omega))) | (with_reducible refine Grow.alloc ?_ _)))); (exact HR.out _ (by repeat (first | (with_reducible exact Below.refl _ _) | (with_reducible assumption) | ((with_reducible refine Below.alloc ?_ ?_ _); rotate_left; (first | omega | (simp <;> omega))) | ((with_reducible refine Below.setCell ?_ ?_ _); rotate_left; (first | omega | (simp <;> omega))) | (with_reducible refine below_drewN ?_ _) | (with_reducible refine Below.drew ?_) | ((with_reducible refine Below.step (by assumption) ?_ ?_); rotate_left; (first | omega | (simp <;> omega)))))); (unfold maxLen; omega); (omega); (first | omega | (simp <;> omega)); rintro A' c' w2 gA)
  go_ret
  have hq := Grow.made gA.1 (Nat.le_refl _) (Below.trans (by repeat (first | (with_reducible exact Below.refl _ _) | (with_reducible assumption) | ((with_reducible refine Below.alloc ?_ ?_ _); rotate_left; (first | omega | (simp <;> omega))) | ((with_reducible refine Below.setCell ?_ ?_ _); rotate_left; (first | omega | (simp <;> omega))) | (with_reducible refine below_drewN ?_ _) | (with_reducible refine Below.drew ?_) | ((with_reducible refine Below.step (by assumption) ?_ ?_); rotate_left; (first | omega | (simp <;> omega))))) gA.2.1)
  rw [Nat.zero_add, List.nil_append] at hq
  rw [HL.out]
  exact hq
set_option maxHeartbeats 16000000 in
theorem S_DeepOf {A : Option Addr} {c : Nat} {l : List EFragment} (w : World) (hs : l.length ≤ 1048576) (h : RS w 5 A l.length c (rFragment l)) :
    Calls Try.prog 50 #[.slice A l.length c] w (MadeRow 161 2 (deepF l).length (rDeepStep (deepF l)) w) := by
  have H0 := Lib.hid h
  have hcm := h.len
  unfold maxLen at hcm
  clear h
  have HG0 : Hid (RS (w.alloc (.cells #[] 83)) 5 (some ⟨w.heap.size, 0, none⟩) 0 0 (rFragment [])) := Grow.rs (base := 0) (Grow.lit_at (cs := #[]) rfl rfl (Nat.zero_le _) (Nat.zero_le _))
  go_enter Try.func50, Try.ntmps50
  go_wp2_with fail
  go_loopw [3, 5, 15] (fun t _ i wr => ∃ (k b o d : Nat), k ≤ l.length ∧ i = .int .i64 k ∧ t = .slice (some ⟨b, o, none⟩) (sortTo l k).length d ∧ RS wr 5 (some ⟨b, o, none⟩) (sortTo l k).length d (rFragment (sortTo l k)) ∧ Below w.heap.size w wr) (fun _ _ i _ => l.length - (intOf i).toNat)
  case atStart => exact ⟨0, _, _, _, Nat.zero_le _, rfl, rfl, HG0.out, (by repeat (first | (with_reducible exact Below.refl _ _) | (with_reducible assumption) | ((with_reducible refine Below.alloc ?_ ?_ _); rotate_left; (first | omega | (simp <;> omega))) | ((with_reducible refine Below.setCell ?_ ?_ _); rotate_left; (first | omega | (simp <;> omega))) | (with_reducible refine below_drewN ?_ _) | (with_reducible refine Below.drew ?_) | ((with_reducible refine Below.step (by assumption) ?_ ?_); rotate_left; (first | omega | (simp <;> omega)))))⟩
  case round =>
    obtain ⟨k, b, o, d, hk, rfl, rfl, hr, hb⟩ := hrel
    have hz := hb.size
    obtain ⟨hsl, hso, hsi⟩ := sortTo_rng (l := l) k hk
    have HR := Lib.hid hr
    have HB := Lib.hid hb
    have HA := Lib.hid (RS.step hb H0.out)
    have y0' : IntKind.i64.wrap ((k : Int) + 1) = (k : Int) + 1 := IntWalk.i64_in _ (by omega)
    have i1 : (0 : Int) ≤ k := by omega
    clear hr hb hso hsi
    by_cases hlt : k < l.length
    · obtain ⟨ba, oa, rfl, hbh, hcell⟩ := HA.out.open_.2.2 (by omega)
      obtain ⟨q0, q1, q2, q3, q4⟩ := rFragment_at (l := l) hlt
      have d0 : wr.cell? ⟨ba, oa + k * 5, none⟩ = some (.int .i64 l[k].1) := by rw [hcell _ (by omega), q0]
      have d1 : wr.cell? ⟨ba, oa + k * 5 + 1, none⟩ = some (.int .i64 l[k].2.1) := by rw [show oa + k * 5 + 1 = oa + (k * 5 + 1) by omega, hcell _ (by omega), q1]
      have d2 : wr.cell? ⟨ba, oa + k * 5 + 2, none⟩ = some (.int .i64 l[k].2.2.1) := by rw [show oa + k * 5 + 2 = oa + (k * 5 + 2) by omega, hcell _ (by omega), q2]
      have d3 : wr.cell? ⟨ba, oa + k * 5 + 3, none⟩ = some (.int .i64 l[k].2.2.2.1) := by rw [show oa + k * 5 + 3 = oa + (k * 5 + 3) by omega, hcell _ (by omega), q3]
      have d4 : wr.cell? ⟨ba, oa + k * 5 + 4, none⟩ = some (.int .i64 l[k].2.2.2.2) := by rw [show oa + k * 5 + 4 = oa + (k * 5 + 4) by omega, hcell _ (by omega), q4]
      have i2 : (k : Int) < l.length := by omega
      have HS := Lib.hid (sortTo_succ hlt)
      have HREL : Hid (k + 1 ≤ l.length) := hlt
      clear hcell q0 q1 q2 q3 q4
      generalize l[k] = x at *
      cases hx : inB x.1 (-1000000) 1000000
      case true =>
        have HS2 : Hid (sortTo l (k + 1) = insF x (sortTo l k)) := by show _ = _; rw [HS.out]; unfold sortStep; rw [hx]; rfl
        have HIN : Hid (∀ wx, Below wr.heap.size wr wx → Calls Try.prog 128 #[.slice (some ⟨b, o, none⟩) (sortTo l k).length d, vFrag x] wx (MadeRow 83 5 (insF x (sortTo l k)).length (rFragment (insF x (sortTo l k))) wx)) := fun wx hx => S_InsertFragment (f := x) wx (by omega) (RS.step hx HR.out)
        go_wp2_with (go_at_call 117; refine (S_in _ _ _ _).mono ?_; rintro e w' ⟨rfl, rfl⟩)
        refine (HIN.out _ (by repeat (first | (with_reducible exact Below.refl _ _) | (with_reducible assumption) | ((with_reducible refine Below.alloc ?_ ?_ _); rotate_left; (first | omega | (simp <;> omega))) | ((with_reducible refine Below.setCell ?_ ?_ _); rotate_left; (first | omega | (simp <;> omega))) | (with_reducible refine below_drewN ?_ _) | (with_reducible refine Below.drew ?_) | ((with_reducible refine Below.step (by assumption) ?_ ?_); rotate_left; (first | omega | (simp <;> omega)))))).mono ?_
        rintro e w5 ⟨P, pc, rfl, po, pge, hb5⟩
        obtain ⟨g5, ds5, rfl, _, _, _⟩ := OwnS.block po (by rw [insF_len]; omega)
        have hB5 : Below w.heap.size w w5 := Below.trans (Below.alloc HB.out hz _) (hb5.mono (by simp; omega))
        have HB5 := Lib.hid hB5
        clear hB5
        have HP5 := Lib.hid po.rs
        clear po pge hb5
        go_wp2_with fail
        go_roundw
        case rel => exact ⟨k + 1, _, _, _, HREL.out, by go_num, by rw [HS2.out], by rw [HS2.out]; exact HP5.out, HB5.out⟩
        case measure => simp [intOf]; omega
      case false =>
        have HS2 : Hid (sortTo l (k + 1) = sortTo l k) := by show _ = _; rw [HS.out]; unfold sortStep; rw [hx]; rfl
        go_wp2_with (go_at_call 117; refine (S_in _ _ _ _).mono ?_; rintro e w' ⟨rfl, rfl⟩)
        go_roundw
        case rel => exact ⟨k + 1, _, _, _, HREL.out, by go_num, by rw [HS2.out], by rw [HS2.out]; exact RS.step (by repeat (first | (with_reducible exact Below.refl _ _) | (with_reducible assumption) | ((with_reducible refine Below.alloc ?_ ?_ _); rotate_left; (first | omega | (simp <;> omega))) | ((with_reducible refine Below.setCell ?_ ?_ _); rotate_left; (first | omega | (simp <;> omega))) | (with_reducible refine below_drewN ?_ _) | (with_reducible refine Below.drew ?_) | ((with_reducible refine Below.step (by assumption) ?_ ?_); rotate_left; (first | omega | (simp <;> omega))))) HR.out, (by repeat (first | (with_reducible exact Below.refl _ _) | (with_reducible exact HB.out) | (with_reducible assumption) | ((with_reducible refine Below.alloc ?_ ?_ _); rotate_left; (first | omega | (simp <;> omega))) | ((with_reducible refine Below.setCell ?_ ?_ _); rotate_left; (first | omega | (simp <;> omega))) | (with_reducible refine below_drewN ?_ _) | (with_reducible refine Below.drew ?_) | ((with_reducible refine Below.step (by assumption) ?_ ?_); rotate_left; (first | omega | (simp <;> omega)))))⟩
        case measure => simp [intOf]; omega
    · obtain rfl : k = l.length := by omega
      have HDF : Hid (deepF l = (outS (sortTo l l.length) (sortTo l l.length).length).take 64) := rfl
      generalize sortTo l l.length = q at *
      have hql : q.length ≤ 1048576 := by omega
      have HG0 : Hid (Grow (wr.alloc (.cells #[] 161)) wr.heap.size 161 2 (some ⟨wr.heap.size, 0, none⟩) 0 0 (rDeepStep (outS q 0))) := Grow.lit_at (cs := #[]) rfl rfl (Nat.le_refl _) (Nat.zero_le _)
      obtain ⟨wo, rfl⟩ : ∃ wo, wo = wr := ⟨_, rfl⟩
      go_wp2_with fail
      go_loopw [6, 7, 8, 9, 10, 11, 29] (fun t v la _ _ _ i wr => ∃ (k : Nat) (Q : Option Addr) (n d : Nat), k ≤ q.length ∧ i = .int .i64 k ∧ t = .slice Q n d ∧ v = .int .i64 (wAt q k) ∧ la = .int .i64 (lastWt (outS q k)) ∧ Grow wr wo.heap.size 161 2 Q n d (rDeepStep (outS q k)) ∧ Below wo.heap.size wo wr) (fun _ _ _ _ _ _ i _ => q.length - (intOf i).toNat)
      case atStart => exact ⟨0, _, _, _, Nat.zero_le _, rfl, rfl, rfl, rfl, HG0.out, (by repeat (first | (with_reducible exact Below.refl _ _) | (with_reducible assumption) | ((with_reducible refine Below.alloc ?_ ?_ _); rotate_left; (first | omega | (simp <;> omega))) | ((with_reducible refine Below.setCell ?_ ?_ _); rotate_left; (first | omega | (simp <;> omega))) | (with_reducible refine below_drewN ?_ _) | (with_reducible refine Below.drew ?_) | ((with_reducible refine Below.step (by assumption) ?_ ?_); rotate_left; (first | omega | (simp <;> omega)))))⟩
      case round =>
        obtain ⟨k, Q, n, d2, hk, rfl, rfl, rfl, rfl, hg, hb⟩ := hrel
        have hz := hb.size
        have hnl : n = (outS q k).length := by have := hg.len; rw [rDeepStep_len] at this; omega
        have hnk : n ≤ k := by have := outS_len q k; omega
        have HNL := Lib.hid hnl
        have HGr := Lib.hid hg
        have HB2 := Lib.hid hb
        have HQ := Lib.hid (RS.step hb HR.out)
        have y0' : IntKind.i64.wrap ((k : Int) + 1) = (k : Int) + 1 := IntWalk.i64_in _ (by omega)
        have i1 : (0 : Int) ≤ k := by omega
        clear hg hb hnl
        by_cases hlt : k < q.length
        · obtain ⟨ba, oa, he, hbh, hcell⟩ := HQ.out.open_.2.2 (by omega)
          injection he with he
          injection he with he1 he2
          subst he1; subst he2
          obtain ⟨q0, q1, q2, q3, q4⟩ := rFragment_at (l := q) hlt
          have d0 : wr.cell? ⟨b, o + k * 5, none⟩ = some (.int .i64 q[k].1) := by rw [hcell _ (by omega), q0]
          have d1 : wr.cell? ⟨b, o + k * 5 + 1, none⟩ = some (.int .i64 q[k].2.1) := by rw [show o + k * 5 + 1 = o + (k * 5 + 1) by omega, hcell _ (by omega), q1]
          have d2 : wr.cell? ⟨b, o + k * 5 + 2, none⟩ = some (.int .i64 q[k].2.2.1) := by rw [show o + k * 5 + 2 = o + (k * 5 + 2) by omega, hcell _ (by omega), q2]
          have d3 : wr.cell? ⟨b, o + k * 5 + 3, none⟩ = some (.int .i64 q[k].2.2.2.1) := by rw [show o + k * 5 + 3 = o + (k * 5 + 3) by omega, hcell _ (by omega), q3]
          have d4 : wr.cell? ⟨b, o + k * 5 + 4, none⟩ = some (.int .i64 q[k].2.2.2.2) := by rw [show o + k * 5 + 4 = o + (k * 5 + 4) by omega, hcell _ (by omega), q4]
          have HNX : Hid (∀ h : k + 1 < q.length, wr.cell? ⟨b, o + (k + 1) * 5, none⟩ = some (.int .i64 (q[k + 1]'h).1)) := fun h => by rw [hcell _ (by omega), (rFragment_at (l := q) h).1]
          have i2 : (k : Int) < q.length := by omega
          have HREL : Hid (k + 1 ≤ q.length) := hlt
          have HFK := Lib.hid (fAt_at hlt)
          have HFX : Hid (∀ h : k + 1 < q.length, fAt q (k + 1) = q[k + 1]'h) := fun h => fAt_at h
          obtain ⟨v0, v1⟩ := wAt_rng q k
          have r1 := wAt_rng q (k + 1)
          obtain ⟨_, la0, la1⟩ := outS_last q k
          have HW : Hid (wAt q (k + 1) = wAt q k - Int.tdiv (wAt q k * clampF q[k].2.2.2.2 0 256) 256) := by show _ = _; rw [wAt, wStep, fAt_at hlt]; rfl
          obtain ⟨c0, c1⟩ := clamp_rng q[k].2.2.2.2
          obtain ⟨p0, p1, p2, p3⟩ := wPart v0 v1 c0 c1
          have HOUT : Hid (outS q (k + 1) = if endS q k && decide (¬ wAt q (k + 1) = lastWt (outS q k)) then outS q k ++ [((fAt q k).1, wAt q (k + 1))] else outS q k) := rfl
          clear hcell q0 q1 q2 q3 q4
          rw [HFK.out] at HOUT
          have HEND : Hid (endS q k = (decide (k + 1 = q.length) || decide (¬ (fAt q (k + 1)).1 = (q[k]).1))) := by show _ = _; rw [endS, HFK.out]; rfl
          generalize q[k] = x at *
          generalize hV1 : wAt q (k + 1) = V1 at *
          have HWV := Lib.hid hV1
          clear hV1
          generalize wAt q k = V at *
          generalize hL : lastWt (outS q k) = L at *
          have HLV := Lib.hid hL
          clear hL
          have y1' : IntKind.i64.wrap (V * clampF x.2.2.2.2 0 256) = V * clampF x.2.2.2.2 0 256 := IntWalk.i64_in _ (by omega)
          have y2' : IntKind.i64.wrap (Int.tdiv (V * clampF x.2.2.2.2 0 256) 256) = Int.tdiv (V * clampF x.2.2.2.2 0 256) 256 := IntWalk.i64_in _ (by omega)
          have y3' : IntKind.i64.wrap (V - Int.tdiv (V * clampF x.2.2.2.2 0 256) 256) = V - Int.tdiv (V * clampF x.2.2.2.2 0 256) 256 := IntWalk.i64_in _ (by omega)
          go_wp2_with (go_at_call 129; refine (S_Clamp _ _ _ _).mono ?_; rintro e w' ⟨rfl, rfl⟩)
          rw [← HW.out]
          clear y1' y2' y3' p0 p1 p2 p3 c0 c1
          by_cases hend : k + 1 = q.length
          · have hE : endS q k = true := by rw [HEND.out]; simp [hend]
            rw [hE, Bool.true_and] at HOUT
            have e1 : ((k : Int) + 1 == (q.length : Int)) = true := by rw [beq_iff_eq]; omega
            clear hend hE
            go_quiet (fail)
            by_cases hw : V1 = L
            · have HO2 : Hid (outS q (k + 1) = outS q k) := by show _ = _; rw [HOUT.out]; simp [hw]
              have hw' : (V1 != L) = false := by simpa using hw
              go_wp2_with fail
              go_roundw
              case rel => exact ⟨k + 1, _, _, _, HREL.out, by go_num, rfl, by rw [HWV.out], by rw [HO2.out]; rw [HLV.out], by rw [HO2.out]; exact (by repeat (first | (with_reducible exact HGr.out) | (with_reducible refine Grow.alloc ?_ _) | (with_reducible refine Grow.drewN ?_ _) | (with_reducible refine Grow.drew ?_) | ((with_reducible refine Grow.far ?_ ?_ _); rotate_left; (first | omega | (simp <;> omega))) | (with_reducible refine Grow.step (by assumption) ?_))), (by repeat (first | (with_reducible exact Below.refl _ _) | (with_reducible exact HB2.out) | (with_reducible assumption) | ((with_reducible refine Below.alloc ?_ ?_ _); rotate_left; (first | omega | (simp <;> omega))) | ((with_reducible refine Below.setCell ?_ ?_ _); rotate_left; (first | omega | (simp <;> omega))) | (with_reducible refine below_drewN ?_ _) | (with_reducible refine Below.drew ?_) | ((with_reducible refine Below.step (by assumption) ?_ ?_); rotate_left; (first | omega | (simp <;> omega)))))⟩
              case measure => simp [intOf]; omega
            · have HO2 : Hid (outS q (k + 1) = outS q k ++ [(x.1, V1)]) := by show _ = _; rw [HOUT.out]; simp [hw]
              have hw' : (V1 != L) = true := by simpa using hw
              go_wp2_with (at_builtin; refine wpList_app (by rfl) _ _ 79 (by rfl) (wo.heap.size) 161 (.agg #[.int .i64 0, .int .i64 0]) 2 16 Try.underlying79 T.infoDeepStep rfl (by decide) (xs := rDeepStep (outS q k)) (by rfl) ?_ (ys := rDeepStep [(x.1, V1)]) (by rfl) ?_ (rDeepStep_one _) ?_ ?_ ?_ ?_; (exact (by repeat (first | (with_reducible exact HGr.out) | (with_reducible refine Grow.alloc ?_ _) | (with_reducible refine Grow.drewN ?_ _) | (with_reducible refine Grow.drew ?_) | ((with_reducible refine Grow.far ?_ ?_ _); rotate_left; (first | omega | (simp <;> omega))) | (with_reducible refine Grow.step (by assumption) ?_)))); (exact (Grow.rs (base := 0) (n := 1) (c := 1) (by repeat (first | (with_reducible refine Grow.drewN ?_ _) | (with_reducible refine Grow.drew ?_) | (refine Grow.lit_at (by simp) (by rfl) (Nat.zero_le _) (by unfold maxLen; omega)))))); (unfold maxLen; omega); (omega); (first | omega | (simp <;> omega)); rintro A' c' w2 gA; have g1 := gA.1; rw [rDeepStep_snoc] at g1; have HG1 := Lib.hid g1; have hB3 : Below wo.heap.size wo w2 := Below.trans (by repeat (first | (with_reducible exact Below.refl _ _) | (with_reducible exact HB2.out) | (with_reducible assumption) | ((with_reducible refine Below.alloc ?_ ?_ _); rotate_left; (first | omega | (simp <;> omega))) | ((with_reducible refine Below.setCell ?_ ?_ _); rotate_left; (first | omega | (simp <;> omega))) | (with_reducible refine below_drewN ?_ _) | (with_reducible refine Below.drew ?_) | ((with_reducible refine Below.step (by assumption) ?_ ?_); rotate_left; (first | omega | (simp <;> omega))))) gA.2.1; have HB3 := Lib.hid hB3; clear g1 gA hB3)
              go_roundw
              case rel => exact ⟨k + 1, _, _, _, HREL.out, by go_num, rfl, by rw [HWV.out], by rw [HO2.out, lastWt_snoc], by rw [HO2.out]; exact HG1.out, HB3.out⟩
              case measure => simp [intOf]; omega
          · have hk1 : k + 1 < q.length := by omega
            have x1 := HNX.out hk1
            have hfx := HFX.out hk1
            rw [hfx] at HEND
            have e1 : ((k : Int) + 1 == (q.length : Int)) = false := by rw [beq_eq_false_iff_ne]; omega
            have i3 : (k : Int) + 1 < q.length := by omega
            have i4 : (0 : Int) ≤ (k : Int) + 1 := by omega
            have i5 : ((k : Int) + 1).toNat = k + 1 := by omega
            clear hfx
            generalize (q[k + 1]'hk1).1 = z at *
            by_cases hne : z = x.1
            · have hE : endS q k = false := by rw [HEND.out]; simp [hend, hne]
              rw [hE, Bool.false_and] at HOUT
              have HO2 : Hid (outS q (k + 1) = outS q k) := HOUT.out
              have hne' : (z != x.1) = false := by simpa using hne
              clear hend hE hne
              go_quiet (fail)
              go_wp2_with fail
              go_roundw
              case rel => exact ⟨k + 1, _, _, _, HREL.out, by go_num, rfl, by rw [HWV.out], by rw [HO2.out]; rw [HLV.out], by rw [HO2.out]; exact (by repeat (first | (with_reducible exact HGr.out) | (with_reducible refine Grow.alloc ?_ _) | (with_reducible refine Grow.drewN ?_ _) | (with_reducible refine Grow.drew ?_) | ((with_reducible refine Grow.far ?_ ?_ _); rotate_left; (first | omega | (simp <;> omega))) | (with_reducible refine Grow.step (by assumption) ?_))), (by repeat (first | (with_reducible exact Below.refl _ _) | (with_reducible exact HB2.out) | (with_reducible assumption) | ((with_reducible refine Below.alloc ?_ ?_ _); rotate_left; (first | omega | (simp <;> omega))) | ((with_reducible refine Below.setCell ?_ ?_ _); rotate_left; (first | omega | (simp <;> omega))) | (with_reducible refine below_drewN ?_ _) | (with_reducible refine Below.drew ?_) | ((with_reducible refine Below.step (by assumption) ?_ ?_); rotate_left; (first | omega | (simp <;> omega)))))⟩
              case measure => simp [intOf]; omega
            · have hE : endS q k = true := by rw [HEND.out]; simp [hend, hne]
              rw [hE, Bool.true_and] at HOUT
              have hne' : (z != x.1) = true := by simpa using hne
              clear hend hE hne
              go_quiet (fail)
              by_cases hw : V1 = L
              · have HO2 : Hid (outS q (k + 1) = outS q k) := by show _ = _; rw [HOUT.out]; simp [hw]
                have hw' : (V1 != L) = false := by simpa using hw
                go_wp2_with fail
                go_roundw
                case rel => exact ⟨k + 1, _, _, _, HREL.out, by go_num, rfl, by rw [HWV.out], by rw [HO2.out]; rw [HLV.out], by rw [HO2.out]; exact (by repeat (first | (with_reducible exact HGr.out) | (with_reducible refine Grow.alloc ?_ _) | (with_reducible refine Grow.drewN ?_ _) | (with_reducible refine Grow.drew ?_) | ((with_reducible refine Grow.far ?_ ?_ _); rotate_left; (first | omega | (simp <;> omega))) | (with_reducible refine Grow.step (by assumption) ?_))), (by repeat (first | (with_reducible exact Below.refl _ _) | (with_reducible exact HB2.out) | (with_reducible assumption) | ((with_reducible refine Below.alloc ?_ ?_ _); rotate_left; (first | omega | (simp <;> omega))) | ((with_reducible refine Below.setCell ?_ ?_ _); rotate_left; (first | omega | (simp <;> omega))) | (with_reducible refine below_drewN ?_ _) | (with_reducible refine Below.drew ?_) | ((with_reducible refine Below.step (by assumption) ?_ ?_); rotate_left; (first | omega | (simp <;> omega)))))⟩
                case measure => simp [intOf]; omega
              · have HO2 : Hid (outS q (k + 1) = outS q k ++ [(x.1, V1)]) := by show _ = _; rw [HOUT.out]; simp [hw]
                have hw' : (V1 != L) = true := by simpa using hw
                go_wp2_with (at_builtin; refine wpList_app (by rfl) _ _ 79 (by rfl) (wo.heap.size) 161 (.agg #[.int .i64 0, .int .i64 0]) 2 16 Try.underlying79 T.infoDeepStep rfl (by decide) (xs := rDeepStep (outS q k)) (by rfl) ?_ (ys := rDeepStep [(x.1, V1)]) (by rfl) ?_ (rDeepStep_one _) ?_ ?_ ?_ ?_; (exact (by repeat (first | (with_reducible exact HGr.out) | (with_reducible refine Grow.alloc ?_ _) | (with_reducible refine Grow.drewN ?_ _) | (with_reducible refine Grow.drew ?_) | ((with_reducible refine Grow.far ?_ ?_ _); rotate_left; (first | omega | (simp <;> omega))) | (with_reducible refine Grow.step (by assumption) ?_)))); (exact (Grow.rs (base := 0) (n := 1) (c := 1) (by repeat (first | (with_reducible refine Grow.drewN ?_ _) | (with_reducible refine Grow.drew ?_) | (refine Grow.lit_at (by simp) (by rfl) (Nat.zero_le _) (by unfold maxLen; omega)))))); (unfold maxLen; omega); (omega); (first | omega | (simp <;> omega)); rintro A' c' w2 gA; have g1 := gA.1; rw [rDeepStep_snoc] at g1; have HG1 := Lib.hid g1; have hB3 : Below wo.heap.size wo w2 := Below.trans (by repeat (first | (with_reducible exact Below.refl _ _) | (with_reducible exact HB2.out) | (with_reducible assumption) | ((with_reducible refine Below.alloc ?_ ?_ _); rotate_left; (first | omega | (simp <;> omega))) | ((with_reducible refine Below.setCell ?_ ?_ _); rotate_left; (first | omega | (simp <;> omega))) | (with_reducible refine below_drewN ?_ _) | (with_reducible refine Below.drew ?_) | ((with_reducible refine Below.step (by assumption) ?_ ?_); rotate_left; (first | omega | (simp <;> omega))))) gA.2.1; have HB3 := Lib.hid hB3; clear g1 gA hB3)
                go_roundw
                case rel => exact ⟨k + 1, _, _, _, HREL.out, by go_num, rfl, by rw [HWV.out], by rw [HO2.out, lastWt_snoc], by rw [HO2.out]; exact HG1.out, HB3.out⟩
                case measure => simp [intOf]; omega
        · obtain rfl : k = q.length := by omega
          have hnn := HNL.out
          subst hnn
          have hws : Below w.heap.size w wr := Below.trans HB.out (HB2.out.mono HB.out.size)
          have HWS := Lib.hid hws
          rcases Nat.lt_or_ge 64 (outS q q.length).length with h64 | h64
          · obtain ⟨bq, oq, rfl, _, _⟩ := HGr.out.rs.open_.2.2 (by omega)
            have HRQ := Lib.hid HGr.out.rs
            go_wp2_with fail
            refine (S_cut_yes _ h64 HRQ.out).mono ?_
            rintro e w5 ⟨P, pc, rfl, po, pge, hb5⟩
            go_wp2_with fail
            go_ret
            rw [HDF.out]
            exact ⟨P, pc, by show Ending.returned (Value.slice P (min 64 (outS q q.length).length) pc) = _; rw [List.length_take], po, fun x hx => by have := pge x hx; have := HWS.out.size; omega, HWS.out.trans (hb5.mono HWS.out.size)⟩
          · go_wp2_with fail
            refine (S_cut_no _ h64).mono ?_
            rintro e w5 ⟨rfl, rfl⟩
            go_wp2_with fail
            go_ret
            rw [HDF.out, List.take_of_length_le h64]
            exact Grow.made HGr.out HB.out.size HWS.out
end Go.Proofs.Ythfnldjldfkmnaa
