/- Check of the reference. -/
import Derived.Test.YtjipfgadamokaaaGreatDoorCheckN
set_option linter.unusedVariables false
set_option linter.unusedSimpArgs false
namespace Go.Proofs.YtjipfgadamokaaaGreatDoor
open Go.RowKit Go.Lib
set_option maxRecDepth 100000
theorem checkOk_def (p : EProg) : checkOk p = (validP p && namesTo p p.1.length && aritiesTo p p.1.length && asssTo p p.2.length && has p colorT p.2.length) := rfl
/-- A code and a number: the code is 0 where all checks pass. -/
def OutCheck (b : Bool) (w : World) (e : Ending) (w' : World) : Prop := (∃ x y : Int, e = .returned (.tuple #[.int .i64 x, .int .i64 y]) ∧ decide (x = 0) = b) ∧ Below w.heap.size w w'
set_option maxHeartbeats 16000000 in
theorem S_Check {A A2 : Option Addr} {c c2 : Nat} {p : EProg} (w : World) (h : ProgIn w A c A2 c2 p) (h1 : p.1.length ≤ 1048576) (h2 : p.2.length ≤ 1048576) :
    Calls Tryz.prog 35 #[vProg A p.1.length c A2 p.2.length c2] w (OutCheck (checkOk p) w) := by
  have H0 := Lib.hid h
  have HV0 : Hid (∀ wx, Below w.heap.size w wx → Calls Tryz.prog 69 #[vProg A p.1.length c A2 p.2.length c2] wx fun e w' => e = .returned (.bool (validP p)) ∧ Below wx.heap.size wx w') := Lib.hid (fun wx hb => S_IsValidProgram wx (h.step hb) h1 h2)
  clear h
  cases hv : validP p with
  | false =>
    have HF : Hid (checkOk p = false) := Lib.hid (by rw [checkOk_def, hv]; rfl)
    rw [hv] at HV0
    go_enter Tryz.func35, Tryz.ntmps35
    go_wp2_with (first | (go_at_call 69; refine (HV0.out _ (by repeat (first | (with_reducible exact Below.refl _ _) | (with_reducible assumption) | ((with_reducible refine Below.alloc ?_ ?_ _); rotate_left; (first | omega | (simp <;> omega))) | ((with_reducible refine Below.setCell ?_ ?_ _); rotate_left; (first | omega | (simp <;> omega))) | (with_reducible refine below_drewN ?_ _) | (with_reducible refine Below.drew ?_) | ((with_reducible refine Below.step (by assumption) ?_ ?_); rotate_left; (first | omega | (simp <;> omega)))))).mono ?_; rintro e w1 ⟨rfl, hb1⟩; have HB1 : Hid (Below w.heap.size w w1) := Lib.hid (Below.step hb1 (by repeat (first | (with_reducible exact Below.refl _ _) | (with_reducible assumption) | ((with_reducible refine Below.alloc ?_ ?_ _); rotate_left; (first | omega | (simp <;> omega))) | ((with_reducible refine Below.setCell ?_ ?_ _); rotate_left; (first | omega | (simp <;> omega))) | (with_reducible refine below_drewN ?_ _) | (with_reducible refine Below.drew ?_) | ((with_reducible refine Below.step (by assumption) ?_ ?_); rotate_left; (first | omega | (simp <;> omega))))) (by first | omega | (simp <;> omega))); clear hb1) | fail)
    exact bodyPost_ret (v := .tuple #[.int .i64 1, .int .i64 0]) (by simp [results, Tryz.results35, go_sem, *]) rfl ⟨⟨_, _, rfl, by rw [HF.out]; rfl⟩, HB1.out⟩
  | true =>
    have HN0 : Hid (∀ wx, Below w.heap.size w wx → Calls Tryz.prog 70 #[vProg A p.1.length c A2 p.2.length c2] wx fun e w' => (∃ r : Int, e = .returned (.int .i64 r) ∧ decide (0 ≤ r) = !(namesTo p p.1.length)) ∧ Below wx.heap.size wx w') := Lib.hid (fun wx hb => S_l14Names wx (H0.out.step hb) hv)
    have hl1 := valid_len hv
    have hl2 := assigns_len hv
    have HAS : Hid (∀ (name : List UInt8) (before : Int) wx, Below w.heap.size w wx → Calls Tryz.prog 73 #[vProg A p.1.length c A2 p.2.length c2, str name, .int .i64 before] wx fun e w' => e = .returned (.int .i64 (lastTo p name before p.2.length)) ∧ Below wx.heap.size wx w') := Lib.hid (fun name before wx hb => S_l14Assigned wx ((H0.out.step hb).2) hl2)
    have HCD : Hid (checkOk p = (namesTo p p.1.length && aritiesTo p p.1.length && asssTo p p.2.length && has p colorT p.2.length)) := Lib.hid (by rw [checkOk_def, hv]; rfl)
    rw [hv] at HV0
    clear hv
    go_enter Tryz.func35, Tryz.ntmps35
    go_wp2_with (first | (go_at_call 69; refine (HV0.out _ (by repeat (first | (with_reducible exact Below.refl _ _) | (with_reducible assumption) | ((with_reducible refine Below.alloc ?_ ?_ _); rotate_left; (first | omega | (simp <;> omega))) | ((with_reducible refine Below.setCell ?_ ?_ _); rotate_left; (first | omega | (simp <;> omega))) | (with_reducible refine below_drewN ?_ _) | (with_reducible refine Below.drew ?_) | ((with_reducible refine Below.step (by assumption) ?_ ?_); rotate_left; (first | omega | (simp <;> omega)))))).mono ?_; rintro e w1 ⟨rfl, hb1⟩; have hz1 := hb1.size; (try simp at hz1); have HB1 : Hid (Below w.heap.size w w1) := Lib.hid (Below.step hb1 (by repeat (first | (with_reducible exact Below.refl _ _) | (with_reducible assumption) | ((with_reducible refine Below.alloc ?_ ?_ _); rotate_left; (first | omega | (simp <;> omega))) | ((with_reducible refine Below.setCell ?_ ?_ _); rotate_left; (first | omega | (simp <;> omega))) | (with_reducible refine below_drewN ?_ _) | (with_reducible refine Below.drew ?_) | ((with_reducible refine Below.step (by assumption) ?_ ?_); rotate_left; (first | omega | (simp <;> omega))))) (by first | omega | (simp <;> omega))); have HP1 : Hid (Own w1 w.heap.size 70 [.slice A p.1.length c, .slice A2 p.2.length c2]) := Lib.hid (Own.step hb1 (Own.new w _ #[_, _])); have r0 : w1.cell? ⟨w.heap.size, 0, none⟩ = some (.slice A p.1.length c) := HP1.out.cell 0; have r1 : w1.cell? ⟨w.heap.size, 1, none⟩ = some (.slice A2 p.2.length c2) := HP1.out.cell 1; clear hb1) | fail)
    refine (HN0.out _ HB1.out).mono ?_
    rintro e w2 ⟨⟨r, rfl, hr⟩, hb2⟩
    have hz2 := hb2.size
    have HB2 : Hid (Below w.heap.size w w2) := Lib.hid (Below.step hb2 HB1.out HB1.out.size)
    have HP2 : Hid (Own w2 w.heap.size 70 [.slice A p.1.length c, .slice A2 p.2.length c2]) := Lib.hid (Own.step hb2 HP1.out)
    have s0 : w2.cell? ⟨w.heap.size, 0, none⟩ = some (.slice A p.1.length c) := HP2.out.cell 0
    have s1 : w2.cell? ⟨w.heap.size, 1, none⟩ = some (.slice A2 p.2.length c2) := HP2.out.cell 1
    clear hb2 HV0 HN0 r0 r1 HP1
    by_cases h0 : 0 ≤ r
    · have HF : Hid (checkOk p = false) := Lib.hid (by
        have hn : namesTo p p.1.length = false := by
          rw [decide_eq_true h0] at hr
          cases hh : namesTo p p.1.length with
          | false => rfl
          | true => rw [hh] at hr; cases hr
        rw [HCD.out, hn]; rfl)
      go_wp2_with fail
      exact bodyPost_ret (v := .tuple #[.int .i64 2, .int .i64 r]) (by simp [results, Tryz.results35, go_sem, *]) rfl ⟨⟨_, _, rfl, by rw [HF.out]; rfl⟩, HB2.out⟩
    have HNT : Hid (namesTo p p.1.length = true) := Lib.hid (by
      rw [decide_eq_false h0] at hr
      cases hh : namesTo p p.1.length with
      | true => rfl
      | false => rw [hh] at hr; cases hr)
    clear hr
    go_wp2_with fail
    go_loopw [5, 6, 20] (fun _ _ i wr => ∃ k : Nat, k ≤ p.1.length ∧ i = .int .i64 k ∧ aritiesTo p k = true ∧ Own wr w.heap.size 70 [.slice A p.1.length c, .slice A2 p.2.length c2] ∧ Below w.heap.size w wr) (fun _ _ i _ => p.1.length - (RowKit.intOf i).toNat)
    case atStart => exact ⟨0, Nat.zero_le _, rfl, rfl, HP2.out, HB2.out⟩
    case round =>
      obtain ⟨k, hk, rfl, ht, hp, hb⟩ := hrel
      obtain ⟨wo, rfl⟩ : ∃ wo, wo = wr := ⟨_, rfl⟩
      have hz := hb.size
      have hl := hp.lt
      have HT := Lib.hid ht
      have HP := Lib.hid hp
      have HB := Lib.hid hb
      have p0 : wo.cell? ⟨w.heap.size, 0, none⟩ = some (.slice A p.1.length c) := hp.cell 0
      have p1 : wo.cell? ⟨w.heap.size, 1, none⟩ = some (.slice A2 p.2.length c2) := hp.cell 1
      clear hp hb ht s0 s1 HP2 HB2
      by_cases hlt : k < p.1.length
      · obtain ⟨b, o, A', c', rfl, hbh, hs, hr, x0, x1, x2, x3⟩ := H0.out.1.2.2 k hlt
        have d0 := (HB.out.cell (p := ⟨b, o + k * 4, none⟩) hbh).trans x0
        have d1 := (HB.out.cell (p := ⟨b, o + k * 4 + 1, none⟩) hbh).trans x1
        have d2 := (HB.out.cell (p := ⟨b, o + k * 4 + 2, none⟩) hbh).trans x2
        have d3 := (HB.out.cell (p := ⟨b, o + k * 4 + 3, none⟩) hbh).trans x3
        have HTS := Lib.hid (aritiesTo_succ hlt)
        obtain ⟨⟨op, name, num, args⟩, hx⟩ : ∃ x, p.1[k] = x := ⟨_, rfl⟩
        rw [hx] at d0 d1 d2 d3 HTS
        (try dsimp only at d0 d1 d2 d3)
        have HX := Lib.hid hx
        have i0 : (k : Int) < p.1.length := by omega
        have i00 : (0 : Int) ≤ k := by omega
        have FIN : Hid (∀ b, arityOk (op, name, num, args) = b → (b = false → checkOk p = false) ∧ (b = true → aritiesTo p (k + 1) = true)) := Lib.hid (fun b hb => ⟨fun e => by rw [HCD.out, aritiesTo_no hlt (by rw [HX.out, hb, e])]; simp, fun e => by rw [HTS.out, HT.out, hb, e]; rfl⟩)
        clear x0 x1 x2 x3 hs hr hx
        by_cases h8 : op = 8
        · subst h8
          obtain ⟨an2, han⟩ : ∃ n, arityF name = n := ⟨_, rfl⟩
          have HAR := Lib.hid han
          by_cases hal : an2 = args.length
          · have HK := Lib.hid ((FIN.out true (by rw [arityOk8, han, hal]; simp)).2 rfl)
            have ea : (an2 != (args.length : Int)) = false := by simpa using hal
            clear hal han
            go_wp2_with fail
            go_quiet ((first | (go_at_call 71; exact quiet_same (S_Arity_is HAR.out _)) | fail))
            go_wp2_with fail
            go_roundw
            case rel => exact ⟨k + 1, by omega, by go_num, HK.out, (by repeat (first | (with_reducible exact HP.out) | ((with_reducible refine Own.far ?_ ?_ _); rotate_left; (first | omega | (simp <;> omega))) | (with_reducible refine Own.alloc ?_ _) | (with_reducible refine Own.drewN ?_ _) | (with_reducible refine Own.drew ?_) | (with_reducible refine Own.step (by assumption) ?_))), (by repeat (first | (with_reducible exact Below.refl _ _) | (with_reducible exact HB.out) | (with_reducible assumption) | ((with_reducible refine Below.alloc ?_ ?_ _); rotate_left; (first | omega | (simp <;> omega))) | ((with_reducible refine Below.setCell ?_ ?_ _); rotate_left; (first | omega | (simp <;> omega))) | (with_reducible refine below_drewN ?_ _) | (with_reducible refine Below.drew ?_) | ((with_reducible refine Below.step (by assumption) ?_ ?_); rotate_left; (first | omega | (simp <;> omega)))))⟩
            case measure => simp [RowKit.intOf] <;> omega
          · have HF := Lib.hid ((FIN.out false (by rw [arityOk8, han]; simpa using hal)).1 rfl)
            have ea : (an2 != (args.length : Int)) = true := by simpa using hal
            clear hal han
            go_wp2_with fail
            go_quiet ((first | (go_at_call 71; exact quiet_same (S_Arity_is HAR.out _)) | fail))
            go_wp2_with fail
            exact bodyPost_ret (v := .tuple #[.int .i64 3, .int .i64 k]) (by simp [results, Tryz.results35, go_sem, *]) rfl ⟨⟨_, _, rfl, by rw [HF.out]; rfl⟩, (by repeat (first | (with_reducible exact Below.refl _ _) | (with_reducible exact HB.out) | (with_reducible assumption) | ((with_reducible refine Below.alloc ?_ ?_ _); rotate_left; (first | omega | (simp <;> omega))) | ((with_reducible refine Below.setCell ?_ ?_ _); rotate_left; (first | omega | (simp <;> omega))) | (with_reducible refine below_drewN ?_ _) | (with_reducible refine Below.drew ?_) | ((with_reducible refine Below.step (by assumption) ?_ ?_); rotate_left; (first | omega | (simp <;> omega)))))⟩
        · have HK := Lib.hid ((FIN.out true (arityOk0 h8)).2 rfl)
          have e8' : (op == 8) = false := by simpa using h8
          have e8d : decide (op = 8) = false := by simpa using h8
          go_wp2_with fail
          (try (go_quiet (fail); go_wp2_with fail))
          go_roundw
          case rel => exact ⟨k + 1, by omega, by go_num, HK.out, (by repeat (first | (with_reducible exact HP.out) | ((with_reducible refine Own.far ?_ ?_ _); rotate_left; (first | omega | (simp <;> omega))) | (with_reducible refine Own.alloc ?_ _) | (with_reducible refine Own.drewN ?_ _) | (with_reducible refine Own.drew ?_) | (with_reducible refine Own.step (by assumption) ?_))), (by repeat (first | (with_reducible exact Below.refl _ _) | (with_reducible exact HB.out) | (with_reducible assumption) | ((with_reducible refine Below.alloc ?_ ?_ _); rotate_left; (first | omega | (simp <;> omega))) | ((with_reducible refine Below.setCell ?_ ?_ _); rotate_left; (first | omega | (simp <;> omega))) | (with_reducible refine below_drewN ?_ _) | (with_reducible refine Below.drew ?_) | ((with_reducible refine Below.step (by assumption) ?_ ?_); rotate_left; (first | omega | (simp <;> omega)))))⟩
          case measure => simp [RowKit.intOf] <;> omega
      · obtain rfl : k = p.1.length := by omega
        go_wp2_with fail
        go_loopw [7, 8, 42] (fun _ _ i wr => ∃ j : Nat, j ≤ p.2.length ∧ i = .int .i64 j ∧ asssTo p j = true ∧ Own wr w.heap.size 70 [.slice A p.1.length c, .slice A2 p.2.length c2] ∧ Below w.heap.size w wr) (fun _ _ i _ => p.2.length - (RowKit.intOf i).toNat)
        case atStart => exact ⟨0, Nat.zero_le _, rfl, rfl, HP.out, HB.out⟩
        case round =>
          obtain ⟨j, hj, rfl, ha, hp2, hb2⟩ := hrel
          obtain ⟨wi, rfl⟩ : ∃ wi, wi = wr := ⟨_, rfl⟩
          have hz3 := hb2.size
          have hl3 := hp2.lt
          have HA := Lib.hid ha
          have HP3 := Lib.hid hp2
          have HB3 := Lib.hid hb2
          have q0 : wi.cell? ⟨w.heap.size, 0, none⟩ = some (.slice A p.1.length c) := hp2.cell 0
          have q1 : wi.cell? ⟨w.heap.size, 1, none⟩ = some (.slice A2 p.2.length c2) := hp2.cell 1
          clear hb2 hp2 ha p0 p1
          by_cases hlj : j < p.2.length
          · obtain ⟨b, o, rfl, hbh, hs, x0, x1⟩ := H0.out.2.2.2 j hlj
            have d0 := (HB3.out.cell (p := ⟨b, o + j * 2, none⟩) hbh).trans x0
            have d1 := (HB3.out.cell (p := ⟨b, o + j * 2 + 1, none⟩) hbh).trans x1
            have HTS := Lib.hid (asssTo_succ hlj)
            obtain ⟨⟨nm, rt⟩, hx⟩ : ∃ x, p.2[j] = x := ⟨_, rfl⟩
            rw [hx] at d0 d1 hs HTS
            (try dsimp only at d0 d1 hs)
            have HX := Lib.hid hx
            have i1 : (j : Int) < p.2.length := by omega
            have i2 : (0 : Int) ≤ j := by omega
            have FIN : Hid (∀ b, assOk p j (nm, rt) = b → (b = false → checkOk p = false) ∧ (b = true → asssTo p (j + 1) = true)) := Lib.hid (fun b hb => ⟨fun e => by rw [HCD.out, asssTo_no hlj (by rw [HX.out, hb, e])]; simp, fun e => by rw [HTS.out, HA.out, hb, e]; rfl⟩)
            have HA1 : Hid (∀ wx, Below w.heap.size w wx → Calls Tryz.prog 73 #[vProg A p.1.length c (some ⟨b, o, none⟩) p.2.length c2, str nm, .int .i64 j] wx fun e w' => e = .returned (.int .i64 (lastTo p nm j p.2.length)) ∧ Below wx.heap.size wx w') := Lib.hid (fun wx hb => HAS.out nm j wx hb)
            have HLH := Lib.hid (last_has p nm j)
            generalize lastTo p nm j p.2.length = lv at *
            clear x0 x1 hs hx
            cases hvr : isVar nm with
            | true =>
              have HF := Lib.hid ((FIN.out false (by unfold assOk; rw [hvr]; rfl)).1 rfl)
              have HIV : Hid (∀ wx, Calls Tryz.prog 72 #[str nm] wx fun e w' => e = .returned (.bool true) ∧ Below wx.heap.size wx w') := Lib.hid (fun wx => by have := S_IsVariable nm wx; rw [hvr] at this; exact this)
              go_wp2_with (first | (go_at_call 72; refine (HIV.out _).mono ?_; rintro e w' ⟨rfl, hbx⟩; have HBX : Hid (Below w.heap.size w w') := Lib.hid (Below.step hbx (by repeat (first | (with_reducible exact Below.refl _ _) | (with_reducible exact HB3.out) | (with_reducible assumption) | ((with_reducible refine Below.alloc ?_ ?_ _); rotate_left; (first | omega | (simp <;> omega))) | ((with_reducible refine Below.setCell ?_ ?_ _); rotate_left; (first | omega | (simp <;> omega))) | (with_reducible refine below_drewN ?_ _) | (with_reducible refine Below.drew ?_) | ((with_reducible refine Below.step (by assumption) ?_ ?_); rotate_left; (first | omega | (simp <;> omega))))) (by first | omega | (simp <;> omega))); clear hbx) | fail)
              exact bodyPost_ret (v := .tuple #[.int .i64 4, .int .i64 j]) (by simp [results, Tryz.results35, go_sem, *]) rfl ⟨⟨_, _, rfl, by rw [HF.out]; rfl⟩, HBX.out⟩
            | false =>
              have HIV : Hid (∀ wx, Calls Tryz.prog 72 #[str nm] wx fun e w' => e = .returned (.bool false) ∧ Below wx.heap.size wx w') := Lib.hid (fun wx => by have := S_IsVariable nm wx; rw [hvr] at this; exact this)
              by_cases hlv : 0 ≤ lv
              · have HF := Lib.hid ((FIN.out false (by unfold assOk; rw [hvr, ← HLH.out, decide_eq_true hlv]; rfl)).1 rfl)
                go_wp2_with (first | (go_at_call 72; refine (HIV.out _).mono ?_; rintro e w' ⟨rfl, hbx⟩; have hzx := hbx.size; (try simp at hzx); have HBX : Hid (Below w.heap.size w w') := Lib.hid (Below.step hbx (by repeat (first | (with_reducible exact Below.refl _ _) | (with_reducible exact HB3.out) | (with_reducible assumption) | ((with_reducible refine Below.alloc ?_ ?_ _); rotate_left; (first | omega | (simp <;> omega))) | ((with_reducible refine Below.setCell ?_ ?_ _); rotate_left; (first | omega | (simp <;> omega))) | (with_reducible refine below_drewN ?_ _) | (with_reducible refine Below.drew ?_) | ((with_reducible refine Below.step (by assumption) ?_ ?_); rotate_left; (first | omega | (simp <;> omega))))) (by first | omega | (simp <;> omega))); have HPX : Hid (Own w' w.heap.size 70 [.slice A p.1.length c, .slice (some ⟨b, o, none⟩) p.2.length c2]) := Lib.hid (Own.step hbx (by repeat (first | (with_reducible exact HP3.out) | ((with_reducible refine Own.far ?_ ?_ _); rotate_left; (first | omega | (simp <;> omega))) | (with_reducible refine Own.alloc ?_ _) | (with_reducible refine Own.drewN ?_ _) | (with_reducible refine Own.drew ?_) | (with_reducible refine Own.step (by assumption) ?_)))); have v0 : w'.cell? ⟨w.heap.size, 0, none⟩ = some (.slice A p.1.length c) := HPX.out.cell 0; have v1 : w'.cell? ⟨w.heap.size, 1, none⟩ = some (.slice (some ⟨b, o, none⟩) p.2.length c2) := HPX.out.cell 1; have u0 := fun o => hbx.cell (p := ⟨wi.heap.size, o, none⟩) (by first | omega | (simp <;> omega)); clear hbx) | (go_at_call 73; refine (HA1.out _ HBX.out).mono ?_; rintro e w4 ⟨rfl, hby⟩; have HBY : Hid (Below w.heap.size w w4) := Lib.hid (Below.step hby HBX.out HBX.out.size); clear hby) | fail)
                exact bodyPost_ret (v := .tuple #[.int .i64 4, .int .i64 j]) (by simp [results, Tryz.results35, go_sem, *]) rfl ⟨⟨_, _, rfl, by rw [HF.out]; rfl⟩, HBY.out⟩
              · have HK := Lib.hid ((FIN.out true (by unfold assOk; rw [hvr, ← HLH.out, decide_eq_false hlv]; rfl)).2 rfl)
                go_wp2_with (first | (go_at_call 72; refine (HIV.out _).mono ?_; rintro e w' ⟨rfl, hbx⟩; have hzx := hbx.size; (try simp at hzx); have HBX : Hid (Below w.heap.size w w') := Lib.hid (Below.step hbx (by repeat (first | (with_reducible exact Below.refl _ _) | (with_reducible exact HB3.out) | (with_reducible assumption) | ((with_reducible refine Below.alloc ?_ ?_ _); rotate_left; (first | omega | (simp <;> omega))) | ((with_reducible refine Below.setCell ?_ ?_ _); rotate_left; (first | omega | (simp <;> omega))) | (with_reducible refine below_drewN ?_ _) | (with_reducible refine Below.drew ?_) | ((with_reducible refine Below.step (by assumption) ?_ ?_); rotate_left; (first | omega | (simp <;> omega))))) (by first | omega | (simp <;> omega))); have HPX : Hid (Own w' w.heap.size 70 [.slice A p.1.length c, .slice (some ⟨b, o, none⟩) p.2.length c2]) := Lib.hid (Own.step hbx (by repeat (first | (with_reducible exact HP3.out) | ((with_reducible refine Own.far ?_ ?_ _); rotate_left; (first | omega | (simp <;> omega))) | (with_reducible refine Own.alloc ?_ _) | (with_reducible refine Own.drewN ?_ _) | (with_reducible refine Own.drew ?_) | (with_reducible refine Own.step (by assumption) ?_)))); have v0 : w'.cell? ⟨w.heap.size, 0, none⟩ = some (.slice A p.1.length c) := HPX.out.cell 0; have v1 : w'.cell? ⟨w.heap.size, 1, none⟩ = some (.slice (some ⟨b, o, none⟩) p.2.length c2) := HPX.out.cell 1; have u0 := fun o => hbx.cell (p := ⟨wi.heap.size, o, none⟩) (by first | omega | (simp <;> omega)); clear hbx) | (go_at_call 73; refine (HA1.out _ HBX.out).mono ?_; rintro e w4 ⟨rfl, hby⟩; have HBY : Hid (Below w.heap.size w w4) := Lib.hid (Below.step hby HBX.out HBX.out.size); have HPY : Hid (Own w4 w.heap.size 70 [.slice A p.1.length c, .slice (some ⟨b, o, none⟩) p.2.length c2]) := Lib.hid (Own.step hby HPX.out); clear hby) | fail)
                go_roundw
                case rel => exact ⟨j + 1, by omega, by go_num, HK.out, HPY.out, HBY.out⟩
                case measure => simp [RowKit.intOf] <;> omega
          · obtain rfl : j = p.2.length := by omega
            have HA1 : Hid (∀ wx, Below w.heap.size w wx → Calls Tryz.prog 73 #[vProg A p.1.length c A2 p.2.length c2, .string ⟨#[99, 111, 108, 111, 114]⟩, .int .i64 p.2.length] wx fun e w' => e = .returned (.int .i64 (lastTo p colorT p.2.length p.2.length)) ∧ Below wx.heap.size wx w') := Lib.hid (fun wx hb => HAS.out colorT p.2.length wx hb)
            have HLH := Lib.hid (last_has p colorT p.2.length)
            have HCE : Hid (checkOk p = has p colorT p.2.length) := Lib.hid (by rw [HCD.out, HNT.out, HT.out, HA.out]; rfl)
            generalize lastTo p colorT p.2.length p.2.length = lv at *
            by_cases hlv : 0 ≤ lv
            · have HF : Hid (checkOk p = true) := Lib.hid (by rw [HCE.out, ← HLH.out, decide_eq_true hlv])
              have hlv2 : ¬ lv < 0 := by omega
              go_wp2_with (first | (go_at_call 73; refine (HA1.out _ HB3.out).mono ?_; rintro e w4 ⟨rfl, hby⟩; have HBY : Hid (Below w.heap.size w w4) := Lib.hid (Below.step hby HB3.out HB3.out.size); clear hby) | fail)
              exact bodyPost_ret (v := .tuple #[.int .i64 0, .int .i64 0]) (by simp [results, Tryz.results35, go_sem, *]) rfl ⟨⟨_, _, rfl, by rw [HF.out]; rfl⟩, HBY.out⟩
            · have HF : Hid (checkOk p = false) := Lib.hid (by rw [HCE.out, ← HLH.out, decide_eq_false hlv])
              have hlv2 : lv < 0 := by omega
              go_wp2_with (first | (go_at_call 73; refine (HA1.out _ HB3.out).mono ?_; rintro e w4 ⟨rfl, hby⟩; have HBY : Hid (Below w.heap.size w w4) := Lib.hid (Below.step hby HB3.out HB3.out.size); clear hby) | fail)
              exact bodyPost_ret (v := .tuple #[.int .i64 5, .int .i64 0]) (by simp [results, Tryz.results35, go_sem, *]) rfl ⟨⟨_, _, rfl, by rw [HF.out]; rfl⟩, HBY.out⟩
end Go.Proofs.YtjipfgadamokaaaGreatDoor
