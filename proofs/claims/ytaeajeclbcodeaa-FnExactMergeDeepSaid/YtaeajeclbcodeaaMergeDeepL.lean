/- MADE BY PROGRAM (genlaw.py). The law FnExactMergeDeep. -/
import Derived.Test.YtaeajeclbcodeaaMrgI
import Derived.Test.YtaeajeclbcodeaaMade
import Derived.Deep.RegionHeld3
import Derived.Deep.DeepCutAuto
namespace Go.Proofs.Ytaeajeclbcodeaa
open Go.ChangeShapes Go.WideShapes Go.ChangeAt Go.RowKit
set_option linter.unusedVariables false
set_option maxRecDepth 100000
set_option maxHeartbeats 8000000 in
theorem L_ExMergeDeep1 (y0l : List EDeepStep) (A0a : Option Addr) (p0a : Nat) (y1l : List EDeepStep) (A1a : Option Addr) (p1a : Nat) (r0l : List EDeepStep) (w : World) (h0a : RS w 2 A0a y0l.length p0a (rDeepStep y0l)) (h1a : RS w 2 A1a y1l.length p1a (rDeepStep y1l)) (br0l : r0l.length ≤ 1048576) (HS : Hid (∀ (A0a : Option Addr) (p0a : Nat), ∀ (A1a : Option Addr) (p1a : Nat), ∀ (wx : World), RS wx 2 A0a y0l.length p0a (rDeepStep y0l) → RS wx 2 A1a y1l.length p1a (rDeepStep y1l) → Calls Try.prog 12 #[(.slice A0a y0l.length p0a), (.slice A1a y1l.length p1a)] wx (MadeRow 61 2 r0l.length (rDeepStep r0l) wx))) (HI : Hid (∀ (A0a : Option Addr) (p0a : Nat), ∀ (A1a : Option Addr) (p1a : Nat), ∀ (wx : World), RS wx 2 A0a y0l.length p0a (rDeepStep y0l) → RS wx 2 A1a y1l.length p1a (rDeepStep y1l) → Calls Try.prog 14 #[(.slice A0a y0l.length p0a), (.slice A1a y1l.length p1a)] wx (MadeRow 61 2 r0l.length (rDeepStep r0l) wx))) :
    Calls Try.prog 4 #[(.slice A0a y0l.length p0a), (.slice A1a y1l.length p1a)] w fun e w' => e = .returned (.bool true) ∧ Below w.heap.size w w' := by
  have mh0a := h0a.len
  have mh1a := h1a.len
  unfold maxLen at *
  go_enter Try.func4, Try.ntmps4
  go_upto_region 1 with fail
  go_cut [5] (fun sl wx => sl = .int .i64 1048576 ∧ RS wx 2 A0a y0l.length p0a (rDeepStep y0l) ∧ RS wx 2 A1a y1l.length p1a (rDeepStep y1l) ∧ Below w.heap.size w wx)
  case first =>
    go_wp2_with fail
    go_meet
    exact ⟨rfl, (RS.step (by repeat (first | (with_reducible exact Below.refl _ _) | (with_reducible assumption) | ((with_reducible refine Below.alloc ?_ ?_ _); rotate_left; (first | omega | (simp <;> omega))) | ((with_reducible refine Below.setCell ?_ ?_ _); rotate_left; (first | omega | (simp <;> omega))) | (with_reducible refine below_drewN ?_ _) | (with_reducible refine Below.drew ?_) | ((with_reducible refine Below.step (by assumption) ?_ ?_); rotate_left; (first | omega | (simp <;> omega))))) h0a), (RS.step (by repeat (first | (with_reducible exact Below.refl _ _) | (with_reducible assumption) | ((with_reducible refine Below.alloc ?_ ?_ _); rotate_left; (first | omega | (simp <;> omega))) | ((with_reducible refine Below.setCell ?_ ?_ _); rotate_left; (first | omega | (simp <;> omega))) | (with_reducible refine below_drewN ?_ _) | (with_reducible refine Below.drew ?_) | ((with_reducible refine Below.step (by assumption) ?_ ?_); rotate_left; (first | omega | (simp <;> omega))))) h1a), (by repeat (first | (with_reducible exact Below.refl _ _) | (with_reducible assumption) | ((with_reducible refine Below.alloc ?_ ?_ _); rotate_left; (first | omega | (simp <;> omega))) | ((with_reducible refine Below.setCell ?_ ?_ _); rotate_left; (first | omega | (simp <;> omega))) | (with_reducible refine below_drewN ?_ _) | (with_reducible refine Below.drew ?_) | ((with_reducible refine Below.step (by assumption) ?_ ?_); rotate_left; (first | omega | (simp <;> omega)))))⟩
  case rest =>
    obtain ⟨u1, rfl⟩ : ∃ u1, u1 = wc := ⟨_, rfl⟩
    obtain ⟨rfl, qh0a, qh1a, hB⟩ := hcut
    go_upto_region 2 with fail
    go_cut [5] (fun sl wx => (sl = .int .i64 (-1) ∨ ∃ z : Int, sl = .int .i64 z ∧ 0 ≤ z ∧ z ≤ 1048576 ∧ (y0l.length : Int) ≤ 1048576) ∧ Below u1.heap.size u1 wx)
    case first =>
      go_wp2_with fail
      refine (L_szDeepStepS _ (by first | omega | assumption) (by first | omega | assumption) (by unfold maxLen; first | omega | assumption)).mono ?_
      rintro e v1a ⟨rfl, rfl⟩
      go_wp2_with fail
      go_meet
      rcases szF_or (1048576) y0l.length with hq | ⟨hq0, hq1, hq2⟩
      · exact ⟨.inl (by rw [hq]), (by repeat (first | (with_reducible exact Below.refl _ _) | (with_reducible assumption) | ((with_reducible refine Below.alloc ?_ ?_ _); rotate_left; (first | omega | (simp <;> omega))) | ((with_reducible refine Below.setCell ?_ ?_ _); rotate_left; (first | omega | (simp <;> omega))) | (with_reducible refine below_drewN ?_ _) | (with_reducible refine Below.drew ?_) | ((with_reducible refine Below.step (by assumption) ?_ ?_); rotate_left; (first | omega | (simp <;> omega)))))⟩
      · exact ⟨.inr ⟨_, rfl, hq0, hq1, hq2⟩, (by repeat (first | (with_reducible exact Below.refl _ _) | (with_reducible assumption) | ((with_reducible refine Below.alloc ?_ ?_ _); rotate_left; (first | omega | (simp <;> omega))) | ((with_reducible refine Below.setCell ?_ ?_ _); rotate_left; (first | omega | (simp <;> omega))) | (with_reducible refine below_drewN ?_ _) | (with_reducible refine Below.drew ?_) | ((with_reducible refine Below.step (by assumption) ?_ ?_); rotate_left; (first | omega | (simp <;> omega)))))⟩
    case rest =>
      obtain ⟨u2, rfl⟩ : ∃ u2, u2 = wc := ⟨_, rfl⟩
      obtain ⟨hsl, hb⟩ := hcut
      replace hB := Below.step hb hB hB.size
      replace qh0a := RS.step hb qh0a
      replace qh1a := RS.step hb qh1a
      clear hb
      rcases hsl with rfl | ⟨z1, rfl, hz10, hz11, hz12⟩
      · go_wp2
        go_ret
        exact ⟨rfl, hB⟩
      have by0l : y0l.length ≤ 1048576 := by omega
      have t1 : ¬ z1 < 0 := by omega
      go_upto_region 5 with fail
      go_cut [5] (fun sl wx => (sl = .int .i64 (-1) ∨ ∃ z : Int, sl = .int .i64 z ∧ 0 ≤ z ∧ z ≤ z1 ∧ (y1l.length : Int) ≤ z1) ∧ Below u2.heap.size u2 wx)
      case first =>
        go_wp2_with fail
        refine (L_szDeepStepS _ (by first | omega | assumption) (by first | omega | assumption) (by unfold maxLen; first | omega | assumption)).mono ?_
        rintro e v2a ⟨rfl, rfl⟩
        go_wp2_with fail
        go_meet
        rcases szF_or (z1) y1l.length with hq | ⟨hq0, hq1, hq2⟩
        · exact ⟨.inl (by rw [hq]), (by repeat (first | (with_reducible exact Below.refl _ _) | (with_reducible assumption) | ((with_reducible refine Below.alloc ?_ ?_ _); rotate_left; (first | omega | (simp <;> omega))) | ((with_reducible refine Below.setCell ?_ ?_ _); rotate_left; (first | omega | (simp <;> omega))) | (with_reducible refine below_drewN ?_ _) | (with_reducible refine Below.drew ?_) | ((with_reducible refine Below.step (by assumption) ?_ ?_); rotate_left; (first | omega | (simp <;> omega)))))⟩
        · exact ⟨.inr ⟨_, rfl, hq0, hq1, hq2⟩, (by repeat (first | (with_reducible exact Below.refl _ _) | (with_reducible assumption) | ((with_reducible refine Below.alloc ?_ ?_ _); rotate_left; (first | omega | (simp <;> omega))) | ((with_reducible refine Below.setCell ?_ ?_ _); rotate_left; (first | omega | (simp <;> omega))) | (with_reducible refine below_drewN ?_ _) | (with_reducible refine Below.drew ?_) | ((with_reducible refine Below.step (by assumption) ?_ ?_); rotate_left; (first | omega | (simp <;> omega)))))⟩
      case rest =>
        obtain ⟨u3, rfl⟩ : ∃ u3, u3 = wc := ⟨_, rfl⟩
        obtain ⟨hsl, hb⟩ := hcut
        replace hB := Below.step hb hB hB.size
        replace qh0a := RS.step hb qh0a
        replace qh1a := RS.step hb qh1a
        clear hb
        rcases hsl with rfl | ⟨z2, rfl, hz20, hz21, hz22⟩
        · go_wp2
          go_ret
          exact ⟨rfl, hB⟩
        have by1l : y1l.length ≤ 1048576 := by omega
        have t2 : ¬ z2 < 0 := by omega
        go_upto_region 8 with fail
        go_cut [6] (fun s6 wx => ∃ A36a c36a, s6 = (.slice A36a r0l.length c36a) ∧ OwnS wx 2 A36a r0l.length c36a 61 (rDeepStep r0l) ∧ (∀ x, x ∈ gOf A36a → u3.heap.size ≤ x) ∧ Below u3.heap.size u3 wx)
        case first =>
          go_wp2_with fail
          refine (L_toDeepStepSM (l := y0l) _ by0l (RS.step (by repeat (first | (with_reducible exact Below.refl _ _) | (with_reducible assumption) | ((with_reducible refine Below.alloc ?_ ?_ _); rotate_left; (first | omega | (simp <;> omega))) | ((with_reducible refine Below.setCell ?_ ?_ _); rotate_left; (first | omega | (simp <;> omega))) | (with_reducible refine below_drewN ?_ _) | (with_reducible refine Below.drew ?_) | ((with_reducible refine Below.step (by assumption) ?_ ?_); rotate_left; (first | omega | (simp <;> omega))))) qh0a)).mono ?_
          rintro e v3a ⟨Tv3aa, kv3aa, rfl, ov3aa, gev3aa, hbv3a⟩
          have hzv3a := hbv3a.size; (try simp at hzv3a)
          go_wp2_with fail
          refine (L_toDeepStepSM (l := y1l) _ by1l (RS.step (by repeat (first | (with_reducible exact Below.refl _ _) | (with_reducible assumption) | ((with_reducible refine Below.alloc ?_ ?_ _); rotate_left; (first | omega | (simp <;> omega))) | ((with_reducible refine Below.setCell ?_ ?_ _); rotate_left; (first | omega | (simp <;> omega))) | (with_reducible refine below_drewN ?_ _) | (with_reducible refine Below.drew ?_) | ((with_reducible refine Below.step (by assumption) ?_ ?_); rotate_left; (first | omega | (simp <;> omega))))) qh1a)).mono ?_
          rintro e v3b ⟨Tv3ba, kv3ba, rfl, ov3ba, gev3ba, hbv3b⟩
          have hzv3b := hbv3b.size; (try simp at hzv3b)
          go_wp2_with fail
          refine (HS.out _ _ _ _ _ (RS.step (by repeat (first | (with_reducible exact Below.refl _ _) | (with_reducible assumption) | ((with_reducible refine Below.alloc ?_ ?_ _); rotate_left; (first | omega | (simp <;> omega))) | ((with_reducible refine Below.setCell ?_ ?_ _); rotate_left; (first | omega | (simp <;> omega))) | (with_reducible refine below_drewN ?_ _) | (with_reducible refine Below.drew ?_) | ((with_reducible refine Below.step (by assumption) ?_ ?_); rotate_left; (first | omega | (simp <;> omega))))) (OwnS.rs ov3aa)) (RS.step (by repeat (first | (with_reducible exact Below.refl _ _) | (with_reducible assumption) | ((with_reducible refine Below.alloc ?_ ?_ _); rotate_left; (first | omega | (simp <;> omega))) | ((with_reducible refine Below.setCell ?_ ?_ _); rotate_left; (first | omega | (simp <;> omega))) | (with_reducible refine below_drewN ?_ _) | (with_reducible refine Below.drew ?_) | ((with_reducible refine Below.step (by assumption) ?_ ?_); rotate_left; (first | omega | (simp <;> omega))))) (OwnS.rs ov3ba))).mono ?_
          rintro e v3c ⟨Tv3ca, kv3ca, rfl, ov3ca, gev3ca, hbv3c⟩
          have hzv3c := hbv3c.size; (try simp at hzv3c)
          go_wp2_with fail
          go_meet
          exact ⟨Tv3ca, kv3ca, rfl, (by repeat (first | (with_reducible exact ov3ca) | ((with_reducible refine OwnS.far ?_ (fun x hx => ?_) _); rotate_left; (have h1 := gev3ca x hx; have h2 := OwnS.lt ov3ca x hx; (try simp at h1); first | omega | (simp <;> omega))) | (with_reducible refine OwnS.alloc ?_ _) | (with_reducible refine OwnS.drewN ?_ _) | (with_reducible refine OwnS.drew ?_) | (with_reducible refine OwnS.step (by assumption) ?_))), (fun x hx => by have h1 := gev3ca x hx; (try simp at h1); first | omega | (simp <;> omega)), (by repeat (first | (with_reducible exact Below.refl _ _) | (with_reducible assumption) | ((with_reducible refine Below.alloc ?_ ?_ _); rotate_left; (first | omega | (simp <;> omega))) | ((with_reducible refine Below.setCell ?_ ?_ _); rotate_left; (first | omega | (simp <;> omega))) | (with_reducible refine below_drewN ?_ _) | (with_reducible refine Below.drew ?_) | ((with_reducible refine Below.step (by assumption) ?_ ?_); rotate_left; (first | omega | (simp <;> omega)))))⟩
        case rest =>
          obtain ⟨u4, rfl⟩ : ∃ u4, u4 = wc := ⟨_, rfl⟩
          obtain ⟨A36a, c36a, rfl, o36a, ge36a, hb⟩ := hcut
          replace hB := Below.step hb hB hB.size
          replace qh0a := RS.step hb qh0a
          replace qh1a := RS.step hb qh1a
          replace o36a := OwnS.rs o36a
          have hS := Below.refl u4.heap.size u4
          have hBS := hB.size
          go_upto_region 9 with fail
          go_cut [7] (fun s7 wx => ∃ A47a c47a, s7 = (.slice A47a y0l.length c47a) ∧ OwnS wx 2 A47a y0l.length c47a 61 (rDeepStep y0l) ∧ (∀ x, x ∈ gOf A47a → u4.heap.size ≤ x) ∧ Below u4.heap.size u4 wx)
          case first =>
            go_wp2_with fail
            refine (L_toDeepStepSM (l := y0l) _ by0l (RS.step (by repeat (first | (with_reducible exact Below.refl _ _) | (with_reducible assumption) | ((with_reducible refine Below.alloc ?_ ?_ _); rotate_left; (first | omega | (simp <;> omega))) | ((with_reducible refine Below.setCell ?_ ?_ _); rotate_left; (first | omega | (simp <;> omega))) | (with_reducible refine below_drewN ?_ _) | (with_reducible refine Below.drew ?_) | ((with_reducible refine Below.step (by assumption) ?_ ?_); rotate_left; (first | omega | (simp <;> omega))))) (RS.step hS qh0a))).mono ?_
            rintro e v4a ⟨Tv4aa, kv4aa, rfl, ov4aa, gev4aa, hbv4a⟩
            have hzv4a := hbv4a.size; (try simp at hzv4a)
            go_wp2_with fail
            go_meet
            exact ⟨Tv4aa, kv4aa, rfl, (by repeat (first | (with_reducible exact ov4aa) | ((with_reducible refine OwnS.far ?_ (fun x hx => ?_) _); rotate_left; (have h1 := gev4aa x hx; have h2 := OwnS.lt ov4aa x hx; (try simp at h1); first | omega | (simp <;> omega))) | (with_reducible refine OwnS.alloc ?_ _) | (with_reducible refine OwnS.drewN ?_ _) | (with_reducible refine OwnS.drew ?_) | (with_reducible refine OwnS.step (by assumption) ?_))), (fun x hx => by have h1 := gev4aa x hx; (try simp at h1); first | omega | (simp <;> omega)), (by repeat (first | (with_reducible exact Below.refl _ _) | (with_reducible assumption) | ((with_reducible refine Below.alloc ?_ ?_ _); rotate_left; (first | omega | (simp <;> omega))) | ((with_reducible refine Below.setCell ?_ ?_ _); rotate_left; (first | omega | (simp <;> omega))) | (with_reducible refine below_drewN ?_ _) | (with_reducible refine Below.drew ?_) | ((with_reducible refine Below.step (by assumption) ?_ ?_); rotate_left; (first | omega | (simp <;> omega)))))⟩
          case rest =>
            obtain ⟨u5, rfl⟩ : ∃ u5, u5 = wc := ⟨_, rfl⟩
            obtain ⟨A47a, c47a, rfl, o47a, ge47a, hb⟩ := hcut
            replace hB := Below.step hb hB hB.size
            have hSs := hS.size
            replace hS := Below.step hb hS hS.size
            clear hb
            go_upto_region 10 with fail
            go_cut [8] (fun s8 wx => ∃ A58a c58a, s8 = (.slice A58a y1l.length c58a) ∧ OwnS wx 2 A58a y1l.length c58a 61 (rDeepStep y1l) ∧ (∀ x, x ∈ gOf A58a → u5.heap.size ≤ x) ∧ Below u5.heap.size u5 wx)
            case first =>
              go_wp2_with fail
              refine (L_toDeepStepSM (l := y1l) _ by1l (RS.step (by repeat (first | (with_reducible exact Below.refl _ _) | (with_reducible assumption) | ((with_reducible refine Below.alloc ?_ ?_ _); rotate_left; (first | omega | (simp <;> omega))) | ((with_reducible refine Below.setCell ?_ ?_ _); rotate_left; (first | omega | (simp <;> omega))) | (with_reducible refine below_drewN ?_ _) | (with_reducible refine Below.drew ?_) | ((with_reducible refine Below.step (by assumption) ?_ ?_); rotate_left; (first | omega | (simp <;> omega))))) (RS.step hS qh1a))).mono ?_
              rintro e v5a ⟨Tv5aa, kv5aa, rfl, ov5aa, gev5aa, hbv5a⟩
              have hzv5a := hbv5a.size; (try simp at hzv5a)
              go_wp2_with fail
              go_meet
              exact ⟨Tv5aa, kv5aa, rfl, (by repeat (first | (with_reducible exact ov5aa) | ((with_reducible refine OwnS.far ?_ (fun x hx => ?_) _); rotate_left; (have h1 := gev5aa x hx; have h2 := OwnS.lt ov5aa x hx; (try simp at h1); first | omega | (simp <;> omega))) | (with_reducible refine OwnS.alloc ?_ _) | (with_reducible refine OwnS.drewN ?_ _) | (with_reducible refine OwnS.drew ?_) | (with_reducible refine OwnS.step (by assumption) ?_))), (fun x hx => by have h1 := gev5aa x hx; (try simp at h1); first | omega | (simp <;> omega)), (by repeat (first | (with_reducible exact Below.refl _ _) | (with_reducible assumption) | ((with_reducible refine Below.alloc ?_ ?_ _); rotate_left; (first | omega | (simp <;> omega))) | ((with_reducible refine Below.setCell ?_ ?_ _); rotate_left; (first | omega | (simp <;> omega))) | (with_reducible refine below_drewN ?_ _) | (with_reducible refine Below.drew ?_) | ((with_reducible refine Below.step (by assumption) ?_ ?_); rotate_left; (first | omega | (simp <;> omega)))))⟩
            case rest =>
              obtain ⟨u6, rfl⟩ : ∃ u6, u6 = wc := ⟨_, rfl⟩
              obtain ⟨A58a, c58a, rfl, o58a, ge58a, hb⟩ := hcut
              have lto47a5 := OwnS.lt o47a
              replace hB := Below.step hb hB hB.size
              have hSs := hS.size
              replace hS := Below.step hb hS hS.size
              replace o47a := OwnS.step hb o47a
              clear hb
              go_upto_region 11 with fail
              go_cut [9] (fun s9 wx => ∃ A69a c69a, s9 = (.slice A69a r0l.length c69a) ∧ OwnS wx 2 A69a r0l.length c69a 61 (rDeepStep r0l) ∧ (∀ x, x ∈ gOf A69a → u6.heap.size ≤ x) ∧ Below u6.heap.size u6 wx)
              case first =>
                go_wp2_with fail
                refine (HI.out _ _ _ _ _ (RS.step (by repeat (first | (with_reducible exact Below.refl _ _) | (with_reducible assumption) | ((with_reducible refine Below.alloc ?_ ?_ _); rotate_left; (first | omega | (simp <;> omega))) | ((with_reducible refine Below.setCell ?_ ?_ _); rotate_left; (first | omega | (simp <;> omega))) | (with_reducible refine below_drewN ?_ _) | (with_reducible refine Below.drew ?_) | ((with_reducible refine Below.step (by assumption) ?_ ?_); rotate_left; (first | omega | (simp <;> omega))))) (OwnS.rs o47a)) (RS.step (by repeat (first | (with_reducible exact Below.refl _ _) | (with_reducible assumption) | ((with_reducible refine Below.alloc ?_ ?_ _); rotate_left; (first | omega | (simp <;> omega))) | ((with_reducible refine Below.setCell ?_ ?_ _); rotate_left; (first | omega | (simp <;> omega))) | (with_reducible refine below_drewN ?_ _) | (with_reducible refine Below.drew ?_) | ((with_reducible refine Below.step (by assumption) ?_ ?_); rotate_left; (first | omega | (simp <;> omega))))) (OwnS.rs o58a))).mono ?_
                rintro e v6a ⟨Tv6aa, kv6aa, rfl, ov6aa, gev6aa, hbv6a⟩
                have hzv6a := hbv6a.size; (try simp at hzv6a)
                go_wp2_with fail
                go_meet
                exact ⟨Tv6aa, kv6aa, rfl, (by repeat (first | (with_reducible exact ov6aa) | ((with_reducible refine OwnS.far ?_ (fun x hx => ?_) _); rotate_left; (have h1 := gev6aa x hx; have h2 := OwnS.lt ov6aa x hx; (try simp at h1); first | omega | (simp <;> omega))) | (with_reducible refine OwnS.alloc ?_ _) | (with_reducible refine OwnS.drewN ?_ _) | (with_reducible refine OwnS.drew ?_) | (with_reducible refine OwnS.step (by assumption) ?_))), (fun x hx => by have h1 := gev6aa x hx; (try simp at h1); first | omega | (simp <;> omega)), (by repeat (first | (with_reducible exact Below.refl _ _) | (with_reducible assumption) | ((with_reducible refine Below.alloc ?_ ?_ _); rotate_left; (first | omega | (simp <;> omega))) | ((with_reducible refine Below.setCell ?_ ?_ _); rotate_left; (first | omega | (simp <;> omega))) | (with_reducible refine below_drewN ?_ _) | (with_reducible refine Below.drew ?_) | ((with_reducible refine Below.step (by assumption) ?_ ?_); rotate_left; (first | omega | (simp <;> omega)))))⟩
              case rest =>
                obtain ⟨u7, rfl⟩ : ∃ u7, u7 = wc := ⟨_, rfl⟩
                obtain ⟨A69a, c69a, rfl, o69a, ge69a, hb⟩ := hcut
                have lto47a6 := OwnS.lt o47a
                have lto58a6 := OwnS.lt o58a
                replace hB := Below.step hb hB hB.size
                have hSs := hS.size
                replace hS := Below.step hb hS hS.size
                replace o47a := OwnS.step hb o47a
                replace o58a := OwnS.step hb o58a
                clear hb
                go_upto_region 12 with fail
                go_cut [39] (fun sd wx => sd = .bool false ∧ Below u7.heap.size u7 wx)
                case first =>
                  go_wp2_with fail
                  refine (L_eqDeepStepS _ (RS.step (by repeat (first | (with_reducible exact Below.refl _ _) | (with_reducible assumption) | ((with_reducible refine Below.alloc ?_ ?_ _); rotate_left; (first | omega | (simp <;> omega))) | ((with_reducible refine Below.setCell ?_ ?_ _); rotate_left; (first | omega | (simp <;> omega))) | (with_reducible refine below_drewN ?_ _) | (with_reducible refine Below.drew ?_) | ((with_reducible refine Below.step (by assumption) ?_ ?_); rotate_left; (first | omega | (simp <;> omega))))) (OwnS.rs o69a)) (RS.step (by repeat (first | (with_reducible exact Below.refl _ _) | (with_reducible assumption) | ((with_reducible refine Below.alloc ?_ ?_ _); rotate_left; (first | omega | (simp <;> omega))) | ((with_reducible refine Below.setCell ?_ ?_ _); rotate_left; (first | omega | (simp <;> omega))) | (with_reducible refine below_drewN ?_ _) | (with_reducible refine Below.drew ?_) | ((with_reducible refine Below.step (by assumption) ?_ ?_); rotate_left; (first | omega | (simp <;> omega))))) (RS.step hS o36a))).mono ?_
                  rintro e v7a ⟨rfl, hbv7a⟩
                  have hzv7a := hbv7a.size; (try simp at hzv7a)
                  go_wp2_with fail
                  go_meet
                  exact ⟨rfl, (by repeat (first | (with_reducible exact Below.refl _ _) | (with_reducible assumption) | ((with_reducible refine Below.alloc ?_ ?_ _); rotate_left; (first | omega | (simp <;> omega))) | ((with_reducible refine Below.setCell ?_ ?_ _); rotate_left; (first | omega | (simp <;> omega))) | (with_reducible refine below_drewN ?_ _) | (with_reducible refine Below.drew ?_) | ((with_reducible refine Below.step (by assumption) ?_ ?_); rotate_left; (first | omega | (simp <;> omega)))))⟩
                case rest =>
                  obtain ⟨u8, rfl⟩ : ∃ u8, u8 = wc := ⟨_, rfl⟩
                  obtain ⟨rfl, hb⟩ := hcut
                  replace hB := Below.step hb hB hB.size
                  replace hS := Below.step hb hS hS.size
                  replace o47a := OwnS.step hb o47a
                  replace o58a := OwnS.step hb o58a
                  replace o69a := OwnS.step hb o69a
                  clear hb
                  go_upto_region 14 with fail
                  go_cut [44] (fun sd wx => sd = .bool false ∧ Below u8.heap.size u8 wx)
                  case first =>
                    go_wp2_with fail
                    refine (L_toDeepStepSM (l := y0l) _ by0l (RS.step (by repeat (first | (with_reducible exact Below.refl _ _) | (with_reducible assumption) | ((with_reducible refine Below.alloc ?_ ?_ _); rotate_left; (first | omega | (simp <;> omega))) | ((with_reducible refine Below.setCell ?_ ?_ _); rotate_left; (first | omega | (simp <;> omega))) | (with_reducible refine below_drewN ?_ _) | (with_reducible refine Below.drew ?_) | ((with_reducible refine Below.step (by assumption) ?_ ?_); rotate_left; (first | omega | (simp <;> omega))))) (RS.step hS qh0a))).mono ?_
                    rintro e v8a ⟨Tv8aa, kv8aa, rfl, ov8aa, gev8aa, hbv8a⟩
                    have hzv8a := hbv8a.size; (try simp at hzv8a)
                    go_wp2_with fail
                    refine (L_eqDeepStepS _ (RS.step (by repeat (first | (with_reducible exact Below.refl _ _) | (with_reducible assumption) | ((with_reducible refine Below.alloc ?_ ?_ _); rotate_left; (first | omega | (simp <;> omega))) | ((with_reducible refine Below.setCell ?_ ?_ _); rotate_left; (first | omega | (simp <;> omega))) | (with_reducible refine below_drewN ?_ _) | (with_reducible refine Below.drew ?_) | ((with_reducible refine Below.step (by assumption) ?_ ?_); rotate_left; (first | omega | (simp <;> omega))))) (OwnS.rs o47a)) (RS.step (by repeat (first | (with_reducible exact Below.refl _ _) | (with_reducible assumption) | ((with_reducible refine Below.alloc ?_ ?_ _); rotate_left; (first | omega | (simp <;> omega))) | ((with_reducible refine Below.setCell ?_ ?_ _); rotate_left; (first | omega | (simp <;> omega))) | (with_reducible refine below_drewN ?_ _) | (with_reducible refine Below.drew ?_) | ((with_reducible refine Below.step (by assumption) ?_ ?_); rotate_left; (first | omega | (simp <;> omega))))) (OwnS.rs ov8aa))).mono ?_
                    rintro e v8b ⟨rfl, hbv8b⟩
                    have hzv8b := hbv8b.size; (try simp at hzv8b)
                    go_wp2_with fail
                    go_meet
                    exact ⟨rfl, (by repeat (first | (with_reducible exact Below.refl _ _) | (with_reducible assumption) | ((with_reducible refine Below.alloc ?_ ?_ _); rotate_left; (first | omega | (simp <;> omega))) | ((with_reducible refine Below.setCell ?_ ?_ _); rotate_left; (first | omega | (simp <;> omega))) | (with_reducible refine below_drewN ?_ _) | (with_reducible refine Below.drew ?_) | ((with_reducible refine Below.step (by assumption) ?_ ?_); rotate_left; (first | omega | (simp <;> omega)))))⟩
                  case rest =>
                    obtain ⟨u9, rfl⟩ : ∃ u9, u9 = wc := ⟨_, rfl⟩
                    obtain ⟨rfl, hb⟩ := hcut
                    replace hB := Below.step hb hB hB.size
                    replace hS := Below.step hb hS hS.size
                    replace o47a := OwnS.step hb o47a
                    replace o58a := OwnS.step hb o58a
                    replace o69a := OwnS.step hb o69a
                    clear hb
                    go_upto_region 16 with fail
                    go_cut [49] (fun sd wx => sd = .bool false ∧ Below u9.heap.size u9 wx)
                    case first =>
                      go_wp2_with fail
                      refine (L_toDeepStepSM (l := y1l) _ by1l (RS.step (by repeat (first | (with_reducible exact Below.refl _ _) | (with_reducible assumption) | ((with_reducible refine Below.alloc ?_ ?_ _); rotate_left; (first | omega | (simp <;> omega))) | ((with_reducible refine Below.setCell ?_ ?_ _); rotate_left; (first | omega | (simp <;> omega))) | (with_reducible refine below_drewN ?_ _) | (with_reducible refine Below.drew ?_) | ((with_reducible refine Below.step (by assumption) ?_ ?_); rotate_left; (first | omega | (simp <;> omega))))) (RS.step hS qh1a))).mono ?_
                      rintro e v9a ⟨Tv9aa, kv9aa, rfl, ov9aa, gev9aa, hbv9a⟩
                      have hzv9a := hbv9a.size; (try simp at hzv9a)
                      go_wp2_with fail
                      refine (L_eqDeepStepS _ (RS.step (by repeat (first | (with_reducible exact Below.refl _ _) | (with_reducible assumption) | ((with_reducible refine Below.alloc ?_ ?_ _); rotate_left; (first | omega | (simp <;> omega))) | ((with_reducible refine Below.setCell ?_ ?_ _); rotate_left; (first | omega | (simp <;> omega))) | (with_reducible refine below_drewN ?_ _) | (with_reducible refine Below.drew ?_) | ((with_reducible refine Below.step (by assumption) ?_ ?_); rotate_left; (first | omega | (simp <;> omega))))) (OwnS.rs o58a)) (RS.step (by repeat (first | (with_reducible exact Below.refl _ _) | (with_reducible assumption) | ((with_reducible refine Below.alloc ?_ ?_ _); rotate_left; (first | omega | (simp <;> omega))) | ((with_reducible refine Below.setCell ?_ ?_ _); rotate_left; (first | omega | (simp <;> omega))) | (with_reducible refine below_drewN ?_ _) | (with_reducible refine Below.drew ?_) | ((with_reducible refine Below.step (by assumption) ?_ ?_); rotate_left; (first | omega | (simp <;> omega))))) (OwnS.rs ov9aa))).mono ?_
                      rintro e v9b ⟨rfl, hbv9b⟩
                      have hzv9b := hbv9b.size; (try simp at hzv9b)
                      go_wp2_with fail
                      go_meet
                      exact ⟨rfl, (by repeat (first | (with_reducible exact Below.refl _ _) | (with_reducible assumption) | ((with_reducible refine Below.alloc ?_ ?_ _); rotate_left; (first | omega | (simp <;> omega))) | ((with_reducible refine Below.setCell ?_ ?_ _); rotate_left; (first | omega | (simp <;> omega))) | (with_reducible refine below_drewN ?_ _) | (with_reducible refine Below.drew ?_) | ((with_reducible refine Below.step (by assumption) ?_ ?_); rotate_left; (first | omega | (simp <;> omega)))))⟩
                    case rest =>
                      obtain ⟨u10, rfl⟩ : ∃ u10, u10 = wc := ⟨_, rfl⟩
                      obtain ⟨rfl, hb⟩ := hcut
                      replace hB := Below.step hb hB hB.size
                      replace hS := Below.step hb hS hS.size
                      replace o47a := OwnS.step hb o47a
                      replace o58a := OwnS.step hb o58a
                      replace o69a := OwnS.step hb o69a
                      clear hb
                      go_upto_region 19 with fail
                      go_cut [10] (fun sd wx => sd = .int .i64 ((1 : Int) + 2 * (y0l.length : Int)) ∧ OwnS wx 2 A47a y0l.length c47a 61 (ints (upFrom (1 : Int) (y0l.length * 2))) ∧ Only u10.heap.size (gOf A47a) u10 wx)
                      case first =>
                        go_wp2_with fail
                        refine (L_markDeepStepSG _ o47a (by omega) (by omega) (by omega)).mono ?_
                        rintro e v10a ⟨rfl, ov10aa, hOv10a⟩
                        have hzv10a := hOv10a.size
                        go_wp2_with fail
                        go_meet
                        exact ⟨rfl, ov10aa, hOv10a⟩
                      case rest =>
                        obtain ⟨u11, rfl⟩ : ∃ u11, u11 = wc := ⟨_, rfl⟩
                        obtain ⟨rfl, nw0, hO⟩ := hcut
                        have hG : ∀ y, y ∈ gOf A47a → u4.heap.size ≤ y := ge47a
                        replace hB := hB.trans (hO.below hB.size (fun y hy => by have := hG y hy; omega))
                        replace hS := hS.trans (hO.below hS.size (fun y hy => by have := hG y hy; omega))
                        have hL : ∀ y, y ∈ gOf A47a → y < u5.heap.size := lto47a5
                        replace o58a := OwnS.only o58a hO (fun y hy => ⟨OwnS.lt o58a y hy, fun hx => by have h1 := hL y hx; have h2 := ge58a y hy; omega⟩)
                        have hL : ∀ y, y ∈ gOf A47a → y < u6.heap.size := lto47a6
                        replace o69a := OwnS.only o69a hO (fun y hy => ⟨OwnS.lt o69a y hy, fun hx => by have h1 := hL y hx; have h2 := ge69a y hy; omega⟩)
                        clear o47a
                        have o47a := nw0
                        clear nw0
                        clear hO hG
                        have t10 : ¬ (1 : Int) + 2 * (y0l.length : Int) < 0 := by omega
                        go_upto_region 20 with fail
                        go_cut [10] (fun sd wx => sd = .int .i64 (((1 : Int) + 2 * (y0l.length : Int)) + 2 * (y1l.length : Int)) ∧ OwnS wx 2 A58a y1l.length c58a 61 (ints (upFrom ((1 : Int) + 2 * (y0l.length : Int)) (y1l.length * 2))) ∧ Only u11.heap.size (gOf A58a) u11 wx)
                        case first =>
                          go_wp2_with fail
                          refine (L_markDeepStepSG _ o58a (by omega) (by omega) (by omega)).mono ?_
                          rintro e v11a ⟨rfl, ov11aa, hOv11a⟩
                          have hzv11a := hOv11a.size
                          go_wp2_with fail
                          go_meet
                          exact ⟨rfl, ov11aa, hOv11a⟩
                        case rest =>
                          obtain ⟨u12, rfl⟩ : ∃ u12, u12 = wc := ⟨_, rfl⟩
                          obtain ⟨rfl, nw0, hO⟩ := hcut
                          have hG : ∀ y, y ∈ gOf A58a → u5.heap.size ≤ y := ge58a
                          replace hB := hB.trans (hO.below hB.size (fun y hy => by have := hG y hy; omega))
                          replace hS := hS.trans (hO.below hS.size (fun y hy => by have := hG y hy; omega))
                          replace o47a := OwnS.only o47a hO (fun y hy => ⟨OwnS.lt o47a y hy, fun hx => by have h1 := hG y hx; have h2 := lto47a5 y hy; omega⟩)
                          have hL : ∀ y, y ∈ gOf A58a → y < u6.heap.size := lto58a6
                          replace o69a := OwnS.only o69a hO (fun y hy => ⟨OwnS.lt o69a y hy, fun hx => by have h1 := hL y hx; have h2 := ge69a y hy; omega⟩)
                          clear o58a
                          have o58a := nw0
                          clear nw0
                          clear hO hG
                          have t11 : ¬ ((1 : Int) + 2 * (y0l.length : Int)) + 2 * (y1l.length : Int) < 0 := by omega
                          go_upto_region 21 with fail
                          go_cut [63] (fun sd wx => sd = .bool false ∧ Below u12.heap.size u12 wx)
                          case first =>
                            go_wp2_with fail
                            refine (L_eqDeepStepS _ (RS.step (by repeat (first | (with_reducible exact Below.refl _ _) | (with_reducible assumption) | ((with_reducible refine Below.alloc ?_ ?_ _); rotate_left; (first | omega | (simp <;> omega))) | ((with_reducible refine Below.setCell ?_ ?_ _); rotate_left; (first | omega | (simp <;> omega))) | (with_reducible refine below_drewN ?_ _) | (with_reducible refine Below.drew ?_) | ((with_reducible refine Below.step (by assumption) ?_ ?_); rotate_left; (first | omega | (simp <;> omega))))) (OwnS.rs o69a)) (RS.step (by repeat (first | (with_reducible exact Below.refl _ _) | (with_reducible assumption) | ((with_reducible refine Below.alloc ?_ ?_ _); rotate_left; (first | omega | (simp <;> omega))) | ((with_reducible refine Below.setCell ?_ ?_ _); rotate_left; (first | omega | (simp <;> omega))) | (with_reducible refine below_drewN ?_ _) | (with_reducible refine Below.drew ?_) | ((with_reducible refine Below.step (by assumption) ?_ ?_); rotate_left; (first | omega | (simp <;> omega))))) (RS.step hS o36a))).mono ?_
                            rintro e v12a ⟨rfl, hbv12a⟩
                            have hzv12a := hbv12a.size; (try simp at hzv12a)
                            go_wp2_with fail
                            go_meet
                            exact ⟨rfl, (by repeat (first | (with_reducible exact Below.refl _ _) | (with_reducible assumption) | ((with_reducible refine Below.alloc ?_ ?_ _); rotate_left; (first | omega | (simp <;> omega))) | ((with_reducible refine Below.setCell ?_ ?_ _); rotate_left; (first | omega | (simp <;> omega))) | (with_reducible refine below_drewN ?_ _) | (with_reducible refine Below.drew ?_) | ((with_reducible refine Below.step (by assumption) ?_ ?_); rotate_left; (first | omega | (simp <;> omega)))))⟩
                          case rest =>
                            obtain ⟨u13, rfl⟩ : ∃ u13, u13 = wc := ⟨_, rfl⟩
                            obtain ⟨rfl, hb⟩ := hcut
                            replace hB := Below.step hb hB hB.size
                            replace hS := Below.step hb hS hS.size
                            replace o47a := OwnS.step hb o47a
                            replace o58a := OwnS.step hb o58a
                            replace o69a := OwnS.step hb o69a
                            clear hb
                            go_upto_region 24 with fail
                            go_cut [11] (fun sd wx => sd = .int .i64 ((1 : Int) + 2 * (r0l.length : Int)) ∧ OwnS wx 2 A69a r0l.length c69a 61 (ints (upFrom (1 : Int) (r0l.length * 2))) ∧ Only u13.heap.size (gOf A69a) u13 wx)
                            case first =>
                              go_wp2_with fail
                              refine (L_markDeepStepSG _ o69a (by omega) (by omega) (by omega)).mono ?_
                              rintro e v13a ⟨rfl, ov13aa, hOv13a⟩
                              have hzv13a := hOv13a.size
                              go_wp2_with fail
                              go_meet
                              exact ⟨rfl, ov13aa, hOv13a⟩
                            case rest =>
                              obtain ⟨u14, rfl⟩ : ∃ u14, u14 = wc := ⟨_, rfl⟩
                              obtain ⟨rfl, nw0, hO⟩ := hcut
                              have hG : ∀ y, y ∈ gOf A69a → u6.heap.size ≤ y := ge69a
                              replace hB := hB.trans (hO.below hB.size (fun y hy => by have := hG y hy; omega))
                              replace hS := hS.trans (hO.below hS.size (fun y hy => by have := hG y hy; omega))
                              replace o47a := OwnS.only o47a hO (fun y hy => ⟨OwnS.lt o47a y hy, fun hx => by have h1 := hG y hx; have h2 := lto47a6 y hy; omega⟩)
                              replace o58a := OwnS.only o58a hO (fun y hy => ⟨OwnS.lt o58a y hy, fun hx => by have h1 := hG y hx; have h2 := lto58a6 y hy; omega⟩)
                              clear o69a
                              have o69a := nw0
                              clear nw0
                              clear hO hG
                              have t13 : ¬ (1 : Int) + 2 * (r0l.length : Int) < 0 := by omega
                              go_upto_region 26 with fail
                              go_cut [12] (fun sd wx => sd = .int .i64 ((1 : Int) + 2 * (r0l.length : Int)) ∧ Below u14.heap.size u14 wx)
                              case first =>
                                go_wp2_with fail
                                refine (L_heldDeepStepSG _ o69a (by omega) (by omega) (by omega)).mono ?_
                                rintro e v14a ⟨rfl, rfl⟩
                                go_wp2_with fail
                                go_meet
                                exact ⟨rfl, (by repeat (first | (with_reducible exact Below.refl _ _) | (with_reducible assumption) | ((with_reducible refine Below.alloc ?_ ?_ _); rotate_left; (first | omega | (simp <;> omega))) | ((with_reducible refine Below.setCell ?_ ?_ _); rotate_left; (first | omega | (simp <;> omega))) | (with_reducible refine below_drewN ?_ _) | (with_reducible refine Below.drew ?_) | ((with_reducible refine Below.step (by assumption) ?_ ?_); rotate_left; (first | omega | (simp <;> omega)))))⟩
                              case rest =>
                                obtain ⟨u15, rfl⟩ : ∃ u15, u15 = wc := ⟨_, rfl⟩
                                obtain ⟨rfl, hb⟩ := hcut
                                replace hB := Below.step hb hB hB.size
                                replace hS := Below.step hb hS hS.size
                                replace o47a := OwnS.step hb o47a
                                replace o58a := OwnS.step hb o58a
                                replace o69a := OwnS.step hb o69a
                                clear hb
                                have t14 : ¬ (1 : Int) + 2 * (r0l.length : Int) < 0 := by omega
                                go_upto_region 31 with fail
                                go_cut [13] (fun s13 wx => ∃ A1513a c1513a, s13 = (.slice A1513a r0l.length c1513a) ∧ OwnS wx 2 A1513a r0l.length c1513a 61 (rDeepStep r0l) ∧ (∀ x, x ∈ gOf A1513a → u15.heap.size ≤ x) ∧ Below u15.heap.size u15 wx)
                                case first =>
                                  go_wp2_with fail
                                  refine (L_toDeepStepSM (l := y0l) _ by0l (RS.step (by repeat (first | (with_reducible exact Below.refl _ _) | (with_reducible assumption) | ((with_reducible refine Below.alloc ?_ ?_ _); rotate_left; (first | omega | (simp <;> omega))) | ((with_reducible refine Below.setCell ?_ ?_ _); rotate_left; (first | omega | (simp <;> omega))) | (with_reducible refine below_drewN ?_ _) | (with_reducible refine Below.drew ?_) | ((with_reducible refine Below.step (by assumption) ?_ ?_); rotate_left; (first | omega | (simp <;> omega))))) (RS.step hS qh0a))).mono ?_
                                  rintro e v15a ⟨Tv15aa, kv15aa, rfl, ov15aa, gev15aa, hbv15a⟩
                                  have hzv15a := hbv15a.size; (try simp at hzv15a)
                                  go_wp2_with fail
                                  refine (L_toDeepStepSM (l := y1l) _ by1l (RS.step (by repeat (first | (with_reducible exact Below.refl _ _) | (with_reducible assumption) | ((with_reducible refine Below.alloc ?_ ?_ _); rotate_left; (first | omega | (simp <;> omega))) | ((with_reducible refine Below.setCell ?_ ?_ _); rotate_left; (first | omega | (simp <;> omega))) | (with_reducible refine below_drewN ?_ _) | (with_reducible refine Below.drew ?_) | ((with_reducible refine Below.step (by assumption) ?_ ?_); rotate_left; (first | omega | (simp <;> omega))))) (RS.step hS qh1a))).mono ?_
                                  rintro e v15b ⟨Tv15ba, kv15ba, rfl, ov15ba, gev15ba, hbv15b⟩
                                  have hzv15b := hbv15b.size; (try simp at hzv15b)
                                  go_wp2_with fail
                                  refine (HI.out _ _ _ _ _ (RS.step (by repeat (first | (with_reducible exact Below.refl _ _) | (with_reducible assumption) | ((with_reducible refine Below.alloc ?_ ?_ _); rotate_left; (first | omega | (simp <;> omega))) | ((with_reducible refine Below.setCell ?_ ?_ _); rotate_left; (first | omega | (simp <;> omega))) | (with_reducible refine below_drewN ?_ _) | (with_reducible refine Below.drew ?_) | ((with_reducible refine Below.step (by assumption) ?_ ?_); rotate_left; (first | omega | (simp <;> omega))))) (OwnS.rs ov15aa)) (RS.step (by repeat (first | (with_reducible exact Below.refl _ _) | (with_reducible assumption) | ((with_reducible refine Below.alloc ?_ ?_ _); rotate_left; (first | omega | (simp <;> omega))) | ((with_reducible refine Below.setCell ?_ ?_ _); rotate_left; (first | omega | (simp <;> omega))) | (with_reducible refine below_drewN ?_ _) | (with_reducible refine Below.drew ?_) | ((with_reducible refine Below.step (by assumption) ?_ ?_); rotate_left; (first | omega | (simp <;> omega))))) (OwnS.rs ov15ba))).mono ?_
                                  rintro e v15c ⟨Tv15ca, kv15ca, rfl, ov15ca, gev15ca, hbv15c⟩
                                  have hzv15c := hbv15c.size; (try simp at hzv15c)
                                  go_wp2_with fail
                                  go_meet
                                  exact ⟨Tv15ca, kv15ca, rfl, (by repeat (first | (with_reducible exact ov15ca) | ((with_reducible refine OwnS.far ?_ (fun x hx => ?_) _); rotate_left; (have h1 := gev15ca x hx; have h2 := OwnS.lt ov15ca x hx; (try simp at h1); first | omega | (simp <;> omega))) | (with_reducible refine OwnS.alloc ?_ _) | (with_reducible refine OwnS.drewN ?_ _) | (with_reducible refine OwnS.drew ?_) | (with_reducible refine OwnS.step (by assumption) ?_))), (fun x hx => by have h1 := gev15ca x hx; (try simp at h1); first | omega | (simp <;> omega)), (by repeat (first | (with_reducible exact Below.refl _ _) | (with_reducible assumption) | ((with_reducible refine Below.alloc ?_ ?_ _); rotate_left; (first | omega | (simp <;> omega))) | ((with_reducible refine Below.setCell ?_ ?_ _); rotate_left; (first | omega | (simp <;> omega))) | (with_reducible refine below_drewN ?_ _) | (with_reducible refine Below.drew ?_) | ((with_reducible refine Below.step (by assumption) ?_ ?_); rotate_left; (first | omega | (simp <;> omega)))))⟩
                                case rest =>
                                  obtain ⟨u16, rfl⟩ : ∃ u16, u16 = wc := ⟨_, rfl⟩
                                  obtain ⟨A1513a, c1513a, rfl, o1513a, ge1513a, hb⟩ := hcut
                                  have lto47a15 := OwnS.lt o47a
                                  have lto58a15 := OwnS.lt o58a
                                  have lto69a15 := OwnS.lt o69a
                                  replace hB := Below.step hb hB hB.size
                                  have hSs := hS.size
                                  replace hS := Below.step hb hS hS.size
                                  replace o47a := OwnS.step hb o47a
                                  replace o58a := OwnS.step hb o58a
                                  replace o69a := OwnS.step hb o69a
                                  clear hb
                                  go_upto_region 32 with fail
                                  go_cut [83] (fun sd wx => sd = .bool false ∧ Below u16.heap.size u16 wx)
                                  case first =>
                                    go_wp2_with fail
                                    refine (L_eqDeepStepS _ (RS.step (by repeat (first | (with_reducible exact Below.refl _ _) | (with_reducible assumption) | ((with_reducible refine Below.alloc ?_ ?_ _); rotate_left; (first | omega | (simp <;> omega))) | ((with_reducible refine Below.setCell ?_ ?_ _); rotate_left; (first | omega | (simp <;> omega))) | (with_reducible refine below_drewN ?_ _) | (with_reducible refine Below.drew ?_) | ((with_reducible refine Below.step (by assumption) ?_ ?_); rotate_left; (first | omega | (simp <;> omega))))) (OwnS.rs o1513a)) (RS.step (by repeat (first | (with_reducible exact Below.refl _ _) | (with_reducible assumption) | ((with_reducible refine Below.alloc ?_ ?_ _); rotate_left; (first | omega | (simp <;> omega))) | ((with_reducible refine Below.setCell ?_ ?_ _); rotate_left; (first | omega | (simp <;> omega))) | (with_reducible refine below_drewN ?_ _) | (with_reducible refine Below.drew ?_) | ((with_reducible refine Below.step (by assumption) ?_ ?_); rotate_left; (first | omega | (simp <;> omega))))) (RS.step hS o36a))).mono ?_
                                    rintro e v16a ⟨rfl, hbv16a⟩
                                    have hzv16a := hbv16a.size; (try simp at hzv16a)
                                    go_wp2_with fail
                                    go_meet
                                    exact ⟨rfl, (by repeat (first | (with_reducible exact Below.refl _ _) | (with_reducible assumption) | ((with_reducible refine Below.alloc ?_ ?_ _); rotate_left; (first | omega | (simp <;> omega))) | ((with_reducible refine Below.setCell ?_ ?_ _); rotate_left; (first | omega | (simp <;> omega))) | (with_reducible refine below_drewN ?_ _) | (with_reducible refine Below.drew ?_) | ((with_reducible refine Below.step (by assumption) ?_ ?_); rotate_left; (first | omega | (simp <;> omega)))))⟩
                                  case rest =>
                                    obtain ⟨u17, rfl⟩ : ∃ u17, u17 = wc := ⟨_, rfl⟩
                                    obtain ⟨rfl, hb⟩ := hcut
                                    replace hB := Below.step hb hB hB.size
                                    replace hS := Below.step hb hS hS.size
                                    replace o47a := OwnS.step hb o47a
                                    replace o58a := OwnS.step hb o58a
                                    replace o69a := OwnS.step hb o69a
                                    replace o1513a := OwnS.step hb o1513a
                                    clear hb
                                    go_upto_region 35 with fail
                                    go_cut [12] (fun sd wx => sd = .int .i64 ((1 : Int) + 2 * (r0l.length : Int)) ∧ Below u17.heap.size u17 wx)
                                    case first =>
                                      go_wp2_with fail
                                      refine (L_heldDeepStepSG _ o69a (by omega) (by omega) (by omega)).mono ?_
                                      rintro e v17a ⟨rfl, rfl⟩
                                      go_wp2_with fail
                                      go_meet
                                      exact ⟨rfl, (by repeat (first | (with_reducible exact Below.refl _ _) | (with_reducible assumption) | ((with_reducible refine Below.alloc ?_ ?_ _); rotate_left; (first | omega | (simp <;> omega))) | ((with_reducible refine Below.setCell ?_ ?_ _); rotate_left; (first | omega | (simp <;> omega))) | (with_reducible refine below_drewN ?_ _) | (with_reducible refine Below.drew ?_) | ((with_reducible refine Below.step (by assumption) ?_ ?_); rotate_left; (first | omega | (simp <;> omega)))))⟩
                                    case rest =>
                                      obtain ⟨u18, rfl⟩ : ∃ u18, u18 = wc := ⟨_, rfl⟩
                                      obtain ⟨rfl, hb⟩ := hcut
                                      replace hB := Below.step hb hB hB.size
                                      replace hS := Below.step hb hS hS.size
                                      replace o47a := OwnS.step hb o47a
                                      replace o58a := OwnS.step hb o58a
                                      replace o69a := OwnS.step hb o69a
                                      replace o1513a := OwnS.step hb o1513a
                                      clear hb
                                      have t17 : ¬ (1 : Int) + 2 * (r0l.length : Int) < 0 := by omega
                                      go_wp2
                                      go_ret
                                      exact ⟨rfl, hB⟩
theorem L_ExMergeDeep (y0l : List EDeepStep) (A0a : Option Addr) (p0a : Nat) (y1l : List EDeepStep) (A1a : Option Addr) (p1a : Nat) (w : World)  (h0a : RS w 2 A0a y0l.length p0a (rDeepStep y0l)) (h1a : RS w 2 A1a y1l.length p1a (rDeepStep y1l)) :
    Calls Try.prog 4 #[(.slice A0a y0l.length p0a), (.slice A1a y1l.length p1a)] w fun e w' => e = .returned (.bool true) ∧ Below w.heap.size w w' := by
  have hl : (mergeF y0l y1l).length ≤ 64 := by
    unfold mergeF
    split
    · rw [List.length_take]; omega
    · simp
  exact L_ExMergeDeep1 y0l A0a p0a y1l A1a p1a (mergeF y0l y1l) w h0a h1a (by omega) (Lib.hid fun A p B q wx a1 a2 => S_MergeDeep wx a1 a2) (Lib.hid fun A p B q wx a1 a2 => I_MergeDeep wx a1 a2)
theorem FnExactMergeDeep_walk : LawWalk 4 [35, 35] := by
  intro H enc W base args ds ps hA hval hlt
  obtain ⟨v0, v1, rfl, a0, a1⟩ := args2 hA hval
  obtain ⟨A0a, p0a, y0l, rfl, h0a⟩ := a0.deepStepS
  obtain ⟨A1a, p1a, y1l, rfl, h1a⟩ := a1.deepStepS
  exact L_ExMergeDeep y0l A0a p0a y1l A1a p1a W h0a h1a
end Go.Proofs.Ytaeajeclbcodeaa
