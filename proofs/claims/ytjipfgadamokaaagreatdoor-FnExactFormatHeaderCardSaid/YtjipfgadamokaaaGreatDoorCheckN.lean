/- MADE BY PROGRAM (gencheck.py). l14Names of the reference. -/
import Derived.Test.YtjipfgadamokaaaGreatDoorCheckA
set_option linter.unusedVariables false
set_option linter.unusedSimpArgs false
namespace Go.Proofs.YtjipfgadamokaaaGreatDoor
open Go.RowKit Go.Lib
set_option maxRecDepth 100000
set_option maxHeartbeats 16000000 in
theorem S_l14Names {A A2 : Option Addr} {c c2 : Nat} {p : EProg} (w : World) (h : ProgIn w A c A2 c2 p) (hv : validP p = true) :
    Calls Tryz.prog 70 #[vProg A p.1.length c A2 p.2.length c2] w fun e w' => (∃ r : Int, e = .returned (.int .i64 r) ∧ decide (0 ≤ r) = !(namesTo p p.1.length)) ∧ Below w.heap.size w w' := by
  have H0 := Lib.hid h
  have HV := Lib.hid hv
  have h1 := valid_len hv
  have h2 := assigns_len hv
  have HO0 : Hid (∀ wx, Below w.heap.size w wx → Calls Tryz.prog 105 #[vProg A p.1.length c A2 p.2.length c2] wx fun e w' => ∃ g, e = .returned (sl g p.1.length) ∧ Own w' g 3 (ints (ownP p)) ∧ wx.heap.size ≤ g ∧ Below wx.heap.size wx w') := Lib.hid (fun wx hb => S_l14Owners wx (h.step hb) hv)
  have HAS : Hid (∀ (name : List UInt8) (before : Int) wx, Below w.heap.size w wx → Calls Tryz.prog 73 #[vProg A p.1.length c A2 p.2.length c2, str name, .int .i64 before] wx fun e w' => e = .returned (.int .i64 (lastTo p name before p.2.length)) ∧ Below wx.heap.size wx w') := Lib.hid (fun name before wx hb => S_l14Assigned wx ((h.step hb).2) h2)
  clear h hv
  go_enter Tryz.func70, Tryz.ntmps70
  go_wp2_with fail
  refine (HO0.out _ (by repeat (first | (with_reducible exact Below.refl _ _) | (with_reducible assumption) | ((with_reducible refine Below.alloc ?_ ?_ _); rotate_left; (first | omega | (simp <;> omega))) | ((with_reducible refine Below.setCell ?_ ?_ _); rotate_left; (first | omega | (simp <;> omega))) | (with_reducible refine below_drewN ?_ _) | (with_reducible refine Below.drew ?_) | ((with_reducible refine Below.step (by assumption) ?_ ?_); rotate_left; (first | omega | (simp <;> omega)))))).mono ?_
  rintro e w1 ⟨g, rfl, ho, hg, hb1⟩
  have hz1 := hb1.size
  have HB1 : Hid (Below w.heap.size w w1) := Lib.hid (Below.step hb1 (by repeat (first | (with_reducible exact Below.refl _ _) | (with_reducible assumption) | ((with_reducible refine Below.alloc ?_ ?_ _); rotate_left; (first | omega | (simp <;> omega))) | ((with_reducible refine Below.setCell ?_ ?_ _); rotate_left; (first | omega | (simp <;> omega))) | (with_reducible refine below_drewN ?_ _) | (with_reducible refine Below.drew ?_) | ((with_reducible refine Below.step (by assumption) ?_ ?_); rotate_left; (first | omega | (simp <;> omega))))) (by simp))
  have HP1 : Hid (Own w1 w.heap.size 70 [.slice A p.1.length c, .slice A2 p.2.length c2]) := Lib.hid (Own.step hb1 (Own.new w _ #[_, _]))
  have HO1 := Lib.hid ho
  have r0 : w1.cell? ⟨w.heap.size, 0, none⟩ = some (.slice A p.1.length c) := HP1.out.cell 0
  have r1 : w1.cell? ⟨w.heap.size, 1, none⟩ = some (.slice A2 p.2.length c2) := HP1.out.cell 1
  (try simp at hg hz1)
  clear ho hb1 HO0
  go_wp2_with fail
  go_loopw [4, 5, 11] (fun _ _ i wr => ∃ k : Nat, k ≤ p.1.length ∧ i = .int .i64 k ∧ namesTo p k = true ∧ Own wr w.heap.size 70 [.slice A p.1.length c, .slice A2 p.2.length c2] ∧ Own wr g 3 (ints (ownP p)) ∧ Below w.heap.size w wr) (fun _ _ i _ => p.1.length - (RowKit.intOf i).toNat)
  case atStart => exact ⟨0, Nat.zero_le _, rfl, rfl, HP1.out, HO1.out, HB1.out⟩
  case round =>
    obtain ⟨k, hk, rfl, ht, hp, hu, hb⟩ := hrel
    obtain ⟨wo, rfl⟩ : ∃ wo, wo = wr := ⟨_, rfl⟩
    have hz := hb.size
    have hl := hp.lt
    have hgl := hu.lt
    have HT := Lib.hid ht
    have HP := Lib.hid hp
    have HU := Lib.hid hu
    have HB := Lib.hid hb
    have p0 : wo.cell? ⟨w.heap.size, 0, none⟩ = some (.slice A p.1.length c) := hp.cell 0
    have p1 : wo.cell? ⟨w.heap.size, 1, none⟩ = some (.slice A2 p.2.length c2) := hp.cell 1
    clear hp hb ht r0 r1 HP1 HO1 HB1
    by_cases hlt : k < p.1.length
    · obtain ⟨b, o, A', c', rfl, hbh, hs, hr, x0, x1, x2, x3⟩ := H0.out.1.2.2 k hlt
      have d0 := (HB.out.cell (p := ⟨b, o + k * 4, none⟩) hbh).trans x0
      have d1 := (HB.out.cell (p := ⟨b, o + k * 4 + 1, none⟩) hbh).trans x1
      have d2 := (HB.out.cell (p := ⟨b, o + k * 4 + 2, none⟩) hbh).trans x2
      have d3 := (HB.out.cell (p := ⟨b, o + k * 4 + 3, none⟩) hbh).trans x3
      have HTS := Lib.hid (namesTo_succ hlt)
      obtain ⟨⟨op, name, num, args⟩, hx⟩ : ∃ x, p.1[k] = x := ⟨_, rfl⟩
      rw [hx] at d0 d1 d2 d3 HTS
      (try dsimp only at d0 d1 d2 d3)
      have HX := Lib.hid hx
      have e1 : wo.cell? ⟨g, k, none⟩ = some (.int .i64 ((ownP p).getD k 0)) := by rw [hu.cell, ints_getD (by rw [ownP_len]; exact hlt)]
      have i0 : (k : Int) < p.1.length := by omega
      have i00 : (0 : Int) ≤ k := by omega
      have FIN : Hid (∀ b, nameOk p k (op, name, num, args) = b → (b = false → namesTo p p.1.length = false) ∧ (b = true → namesTo p (k + 1) = true)) := Lib.hid (fun b hb => ⟨fun e => namesTo_no hlt (by rw [HX.out, hb, e]), fun e => by rw [HTS.out, HT.out, hb, e]; rfl⟩)
      generalize args.length = an at *
      clear x0 x1 x2 x3 hs hr hx hu
      have ng : ¬ g = wo.heap.size := by omega
      rcases op3_cases op with rfl | rfl | ⟨h2', h8'⟩
      · -- a name
        generalize hov : (ownP p).getD k 0 = ov at *
        have HA1 : Hid (∀ wx, Below w.heap.size w wx → Calls Tryz.prog 73 #[vProg (some ⟨b, o, none⟩) p.1.length c A2 p.2.length c2, str name, .int .i64 ov] wx fun e w' => e = .returned (.int .i64 (lastTo p name ov p.2.length)) ∧ Below wx.heap.size wx w') := Lib.hid (fun wx hb => HAS.out name ov wx hb)
        have HLH := Lib.hid (last_has p name ov)
        generalize lastTo p name ov p.2.length = lv at *
        cases hvr : isVar name with
        | true =>
          have HK := Lib.hid ((FIN.out true (by rw [nameOk2, hvr]; rfl)).2 rfl)
          have HIV : Hid (∀ wx, Calls Tryz.prog 72 #[str name] wx fun e w' => e = .returned (.bool true) ∧ Below wx.heap.size wx w') := Lib.hid (fun wx => by have := S_IsVariable name wx; rw [hvr] at this; exact this)
          go_wp2_with fail
          refine wp_region_held_drew (S := fun w' => w'.cell? ⟨wo.heap.size, 0, none⟩ = some (.int .i64 2) ∧ w'.cell? ⟨wo.heap.size, 1, none⟩ = some (str name) ∧ w'.cell? ⟨w.heap.size, 0, none⟩ = some (.slice (some ⟨b, o, none⟩) p.1.length c) ∧ w'.cell? ⟨w.heap.size, 1, none⟩ = some (.slice A2 p.2.length c2) ∧ w'.cell? ⟨g, k, none⟩ = some (.int .i64 ov)) (by kernel_rfl) ?_ (fun hHeld1 => ?_)
          · (try dsimp only); refine ⟨?_, ?_, ?_, ?_, ?_⟩ <;> (go_simp; done)
          (refine wpAnyH_take (i := 0) (v := ?_) rfl (by kernel_rfl) (by kernel_rfl) (by kernel_rfl) (fun _ _ _ h => h) (Or.inl ⟨by rfl, ?_⟩) (by assumption) ?_; rotate_left; focus (intro w hSw; (try dsimp only at hSw); go_simp; try with_reducible rfl)); (try simp only [List.getElem_toArray, List.getElem_cons_succ, List.getElem_cons_zero, Act.put, List.setIfInBounds_toArray, List.set_cons_zero, List.set_cons_succ])
          (refine wpAnyH_take (i := 1) (v := ?_) rfl (by kernel_rfl) (by kernel_rfl) (by kernel_rfl) (fun _ _ _ h => h) (Or.inl ⟨by rfl, ?_⟩) (by assumption) ?_; rotate_left; focus (intro w hSw; (try dsimp only at hSw); go_simp; try with_reducible rfl)); (try simp only [List.getElem_toArray, List.getElem_cons_succ, List.getElem_cons_zero, Act.put, List.setIfInBounds_toArray, List.set_cons_zero, List.set_cons_succ])
          (refine wpAnyH_take (i := 2) (v := ?_) rfl (by kernel_rfl) (by kernel_rfl) (by kernel_rfl) (fun _ _ _ h => h) (Or.inl ⟨by rfl, ?_⟩) (by assumption) ?_; rotate_left; focus (intro w hSw; (try dsimp only at hSw); go_simp; try with_reducible rfl)); (try simp only [List.getElem_toArray, List.getElem_cons_succ, List.getElem_cons_zero, Act.put, List.setIfInBounds_toArray, List.set_cons_zero, List.set_cons_succ])
          (refine wpAnyH_take (i := 3) (v := ?_) rfl (by kernel_rfl) (by kernel_rfl) (by kernel_rfl) (fun _ _ _ h => h) (Or.inl ⟨by rfl, ?_⟩) (by assumption) ?_; rotate_left; focus (intro w hSw; (try dsimp only at hSw); go_simp; try with_reducible rfl)); (try simp only [List.getElem_toArray, List.getElem_cons_succ, List.getElem_cons_zero, Act.put, List.setIfInBounds_toArray, List.set_cons_zero, List.set_cons_succ])
          (refine wpAnyH_take (i := 4) (v := ?_) rfl (by kernel_rfl) (by kernel_rfl) (by kernel_rfl) (fun _ _ _ h => h) (Or.inl ⟨by rfl, ?_⟩) (by assumption) ?_; rotate_left; focus (intro w hSw; (try dsimp only at hSw); go_simp; try with_reducible rfl)); (try simp only [List.getElem_toArray, List.getElem_cons_succ, List.getElem_cons_zero, Act.put, List.setIfInBounds_toArray, List.set_cons_zero, List.set_cons_succ])
          (refine wpAnyH_take (i := 5) (v := ?_) rfl (by kernel_rfl) (by kernel_rfl) (by kernel_rfl) (fun _ _ _ h => h) (Or.inl ⟨by rfl, ?_⟩) (by assumption) ?_; rotate_left; focus (intro w hSw; (try dsimp only at hSw); go_simp; try with_reducible rfl)); (try simp only [List.getElem_toArray, List.getElem_cons_succ, List.getElem_cons_zero, Act.put, List.setIfInBounds_toArray, List.set_cons_zero, List.set_cons_succ])
          refine wpAnyH_ready (rs := [6]) (by kernel_rfl) (by simp) ?_
          refine AllReadyH.cons rfl (fun K hK => ?_) AllReadyH.nil
          go_simp
          (go_at_call 72; (with_reducible refine (HIV.out _).mono ?_); rintro e wB ⟨rfl, hbB⟩; have hzB := hbB.size; (try simp at hzB); (refine with_box hbB (wo.heap.size) ?_ ?_; (first | omega | (simp <;> omega)); intro n0 nf0 nz0); (refine with_box hbB (w.heap.size) ?_ ?_; (first | omega | (simp <;> omega)); intro m0 mf0 mz0); (refine with_box hbB (g) ?_ ?_; (first | omega | (simp <;> omega)); intro q0 qf0 qz0))
          (try go_wp2_with fail)
          refine hK.out _ _ ?_ (fun hHeld2 => ?_)
          · (try dsimp only); refine ⟨?_, ?_, ?_, ?_, ?_⟩ <;> (first | (go_simp; done) | (simp [*]; done))
          clear hK K hHeld1
          (try simp only [List.getElem_toArray, List.getElem_cons_succ, List.getElem_cons_zero, Act.put, List.setIfInBounds_toArray, List.set_cons_zero, List.set_cons_succ])
          (refine wpAnyH_take (i := 7) (v := ?_) rfl (by kernel_rfl) (by kernel_rfl) (by kernel_rfl) (fun _ _ _ h => h) (Or.inl ⟨by rfl, ?_⟩) (by assumption) ?_; rotate_left; focus (intro w hSw; (try dsimp only at hSw); go_simp; try with_reducible rfl)); (try simp only [List.getElem_toArray, List.getElem_cons_succ, List.getElem_cons_zero, Act.put, List.setIfInBounds_toArray, List.set_cons_zero, List.set_cons_succ])
          (refine wpAnyH_take (i := 8) (v := ?_) rfl (by kernel_rfl) (by kernel_rfl) (by kernel_rfl) (fun _ _ _ h => h) (Or.inl ⟨by rfl, ?_⟩) (by assumption) ?_; rotate_left; focus (intro w hSw; (try dsimp only at hSw); go_simp; try with_reducible rfl)); (try simp only [List.getElem_toArray, List.getElem_cons_succ, List.getElem_cons_zero, Act.put, List.setIfInBounds_toArray, List.set_cons_zero, List.set_cons_succ])
          (refine wpAnyH_take (i := 9) (v := ?_) rfl (by kernel_rfl) (by kernel_rfl) (by kernel_rfl) (fun _ _ _ h => h) (Or.inl ⟨by rfl, ?_⟩) (by assumption) ?_; rotate_left; focus (intro w hSw; (try dsimp only at hSw); go_simp; try with_reducible rfl)); (try simp only [List.getElem_toArray, List.getElem_cons_succ, List.getElem_cons_zero, Act.put, List.setIfInBounds_toArray, List.set_cons_zero, List.set_cons_succ])
          (refine wpAnyH_take (i := 10) (v := undef) rfl (by kernel_rfl) (by kernel_rfl) (by kernel_rfl) (fun _ _ _ h => h) (Or.inr ⟨by kernel_rfl, rfl⟩) (by assumption) ?_); (try simp only [List.getElem_toArray, List.getElem_cons_succ, List.getElem_cons_zero, Act.put, List.setIfInBounds_toArray, List.set_cons_zero, List.set_cons_succ])
          (refine wpAnyH_take (i := 11) (v := undef) rfl (by kernel_rfl) (by kernel_rfl) (by kernel_rfl) (fun _ _ _ h => h) (Or.inr ⟨by kernel_rfl, rfl⟩) (by assumption) ?_); (try simp only [List.getElem_toArray, List.getElem_cons_succ, List.getElem_cons_zero, Act.put, List.setIfInBounds_toArray, List.set_cons_zero, List.set_cons_succ])
          (refine wpAnyH_take (i := 12) (v := undef) rfl (by kernel_rfl) (by kernel_rfl) (by kernel_rfl) (fun _ _ _ h => h) (Or.inr ⟨by kernel_rfl, rfl⟩) (by assumption) ?_); (try simp only [List.getElem_toArray, List.getElem_cons_succ, List.getElem_cons_zero, Act.put, List.setIfInBounds_toArray, List.set_cons_zero, List.set_cons_succ])
          (refine wpAnyH_take (i := 13) (v := undef) rfl (by kernel_rfl) (by kernel_rfl) (by kernel_rfl) (fun _ _ _ h => h) (Or.inr ⟨by kernel_rfl, rfl⟩) (by assumption) ?_); (try simp only [List.getElem_toArray, List.getElem_cons_succ, List.getElem_cons_zero, Act.put, List.setIfInBounds_toArray, List.set_cons_zero, List.set_cons_succ])
          (refine wpAnyH_take (i := 14) (v := undef) rfl (by kernel_rfl) (by kernel_rfl) (by kernel_rfl) (fun _ _ _ h => h) (Or.inr ⟨by kernel_rfl, rfl⟩) (by assumption) ?_); (try simp only [List.getElem_toArray, List.getElem_cons_succ, List.getElem_cons_zero, Act.put, List.setIfInBounds_toArray, List.set_cons_zero, List.set_cons_succ])
          (refine wpAnyH_take (i := 15) (v := undef) rfl (by kernel_rfl) (by kernel_rfl) (by kernel_rfl) (fun _ _ _ h => h) (Or.inr ⟨by kernel_rfl, rfl⟩) (by assumption) ?_); (try simp only [List.getElem_toArray, List.getElem_cons_succ, List.getElem_cons_zero, Act.put, List.setIfInBounds_toArray, List.set_cons_zero, List.set_cons_succ])
          (refine wpAnyH_take (i := 16) (v := undef) rfl (by kernel_rfl) (by kernel_rfl) (by kernel_rfl) (fun _ _ _ h => h) (Or.inr ⟨by kernel_rfl, rfl⟩) (by assumption) ?_); (try simp only [List.getElem_toArray, List.getElem_cons_succ, List.getElem_cons_zero, Act.put, List.setIfInBounds_toArray, List.set_cons_zero, List.set_cons_succ])
          (refine wpAnyH_take (i := 17) (v := undef) rfl (by kernel_rfl) (by kernel_rfl) (by kernel_rfl) (fun _ _ _ h => h) (Or.inr ⟨by kernel_rfl, rfl⟩) (by assumption) ?_); (try simp only [List.getElem_toArray, List.getElem_cons_succ, List.getElem_cons_zero, Act.put, List.setIfInBounds_toArray, List.set_cons_zero, List.set_cons_succ])
          (refine wpAnyH_take (i := 18) (v := undef) rfl (by kernel_rfl) (by kernel_rfl) (by kernel_rfl) (fun _ _ _ h => h) (Or.inr ⟨by kernel_rfl, rfl⟩) (by assumption) ?_); (try simp only [List.getElem_toArray, List.getElem_cons_succ, List.getElem_cons_zero, Act.put, List.setIfInBounds_toArray, List.set_cons_zero, List.set_cons_succ])
          (refine wpAnyH_take (i := 19) (v := ?_) rfl (by kernel_rfl) (by kernel_rfl) (by kernel_rfl) (fun _ _ _ h => h) (Or.inl ⟨by rfl, ?_⟩) (by assumption) ?_; rotate_left; focus (intro w hSw; (try dsimp only at hSw); go_simp; try with_reducible rfl)); (try simp only [List.getElem_toArray, List.getElem_cons_succ, List.getElem_cons_zero, Act.put, List.setIfInBounds_toArray, List.set_cons_zero, List.set_cons_succ])
          refine wpAnyH_done (by kernel_rfl) ?_ _
          all_goals
            go_wp2_with fail
            go_roundw
            case rel => exact ⟨k + 1, by omega, by go_num, HK.out, (by repeat (first | (with_reducible exact HP.out) | ((with_reducible refine Own.far ?_ ?_ _); rotate_left; (first | omega | (simp <;> omega))) | (with_reducible refine Own.alloc ?_ _) | (with_reducible refine Own.drewN ?_ _) | (with_reducible refine Own.drew ?_) | (with_reducible refine Own.step (by assumption) ?_))), (by repeat (first | (with_reducible exact HU.out) | ((with_reducible refine Own.far ?_ ?_ _); rotate_left; (first | omega | (simp <;> omega))) | (with_reducible refine Own.alloc ?_ _) | (with_reducible refine Own.drewN ?_ _) | (with_reducible refine Own.drew ?_) | (with_reducible refine Own.step (by assumption) ?_))), (by repeat (first | (with_reducible exact Below.refl _ _) | (with_reducible exact HB.out) | (with_reducible assumption) | ((with_reducible refine Below.alloc ?_ ?_ _); rotate_left; (first | omega | (simp <;> omega))) | ((with_reducible refine Below.setCell ?_ ?_ _); rotate_left; (first | omega | (simp <;> omega))) | (with_reducible refine below_drewN ?_ _) | (with_reducible refine Below.drew ?_) | ((with_reducible refine Below.step (by assumption) ?_ ?_); rotate_left; (first | omega | (simp <;> omega)))))⟩
            case measure => simp [RowKit.intOf] <;> omega
        | false =>
          have HIV : Hid (∀ wx, Calls Tryz.prog 72 #[str name] wx fun e w' => e = .returned (.bool false) ∧ Below wx.heap.size wx w') := Lib.hid (fun wx => by have := S_IsVariable name wx; rw [hvr] at this; exact this)
          cases hhs : has p name ov with
          | true =>
            have HK := Lib.hid ((FIN.out true (by rw [nameOk2, hvr, hov, hhs]; rfl)).2 rfl)
            have hlv : ¬ lv < 0 := by have := HLH.out; rw [hhs] at this; simpa using this
            have hlv2 : 0 ≤ lv := by omega
            go_wp2_with fail
            go_region_held3 (fun w' => w'.cell? ⟨wo.heap.size, 0, none⟩ = some (.int .i64 2) ∧ w'.cell? ⟨wo.heap.size, 1, none⟩ = some (str name) ∧ w'.cell? ⟨w.heap.size, 0, none⟩ = some (.slice (some ⟨b, o, none⟩) p.1.length c) ∧ w'.cell? ⟨w.heap.size, 1, none⟩ = some (.slice A2 p.2.length c2) ∧ w'.cell? ⟨g, k, none⟩ = some (.int .i64 ov))
              (first | go_keep | ((try dsimp only); refine ⟨?_, ?_, ?_, ?_, ?_⟩ <;> (go_simp; done)))
              (first | (go_at_call 72; (with_reducible refine (HIV.out _).mono ?_); rintro e wB ⟨rfl, hbB⟩; have hzB := hbB.size; (try simp at hzB); (refine with_box hbB (wo.heap.size) ?_ ?_; (first | omega | (simp <;> omega)); intro n0 nf0 nz0); (refine with_box hbB (w.heap.size) ?_ ?_; (first | omega | (simp <;> omega)); intro m0 mf0 mz0); (refine with_box hbB (g) ?_ ?_; (first | omega | (simp <;> omega)); intro q0 qf0 qz0)) | (go_at_call 73; (with_reducible refine (HA1.out _ (by repeat (first | (with_reducible exact Below.refl _ _) | (with_reducible exact HB.out) | (with_reducible assumption) | ((with_reducible refine Below.alloc ?_ ?_ _); rotate_left; (first | omega | (simp <;> omega))) | ((with_reducible refine Below.setCell ?_ ?_ _); rotate_left; (first | omega | (simp <;> omega))) | (with_reducible refine below_drewN ?_ _) | (with_reducible refine Below.drew ?_) | ((with_reducible refine Below.step (by assumption) ?_ ?_); rotate_left; (first | omega | (simp <;> omega)))))).mono ?_); rintro e wB ⟨rfl, hbB⟩; have hzB := hbB.size; (try simp at hzB); (refine with_box hbB (wo.heap.size) ?_ ?_; (first | omega | (simp <;> omega)); intro n0 nf0 nz0); (refine with_box hbB (w.heap.size) ?_ ?_; (first | omega | (simp <;> omega)); intro m0 mf0 mz0); (refine with_box hbB (g) ?_ ?_; (first | omega | (simp <;> omega)); intro q0 qf0 qz0)) | fail)
            all_goals
              go_wp2_with fail
              go_roundw
              case rel => exact ⟨k + 1, by omega, by go_num, HK.out, (by repeat (first | (with_reducible exact HP.out) | ((with_reducible refine Own.far ?_ ?_ _); rotate_left; (first | omega | (simp <;> omega))) | (with_reducible refine Own.alloc ?_ _) | (with_reducible refine Own.drewN ?_ _) | (with_reducible refine Own.drew ?_) | (with_reducible refine Own.step (by assumption) ?_))), (by repeat (first | (with_reducible exact HU.out) | ((with_reducible refine Own.far ?_ ?_ _); rotate_left; (first | omega | (simp <;> omega))) | (with_reducible refine Own.alloc ?_ _) | (with_reducible refine Own.drewN ?_ _) | (with_reducible refine Own.drew ?_) | (with_reducible refine Own.step (by assumption) ?_))), (by repeat (first | (with_reducible exact Below.refl _ _) | (with_reducible exact HB.out) | (with_reducible assumption) | ((with_reducible refine Below.alloc ?_ ?_ _); rotate_left; (first | omega | (simp <;> omega))) | ((with_reducible refine Below.setCell ?_ ?_ _); rotate_left; (first | omega | (simp <;> omega))) | (with_reducible refine below_drewN ?_ _) | (with_reducible refine Below.drew ?_) | ((with_reducible refine Below.step (by assumption) ?_ ?_); rotate_left; (first | omega | (simp <;> omega)))))⟩
              case measure => simp [RowKit.intOf] <;> omega
          | false =>
            have HF := Lib.hid ((FIN.out false (by rw [nameOk2, hvr, hov, hhs]; rfl)).1 rfl)
            have hlv : lv < 0 := by have := HLH.out; rw [hhs] at this; simpa using this
            go_wp2_with fail
            go_region_held3 (fun w' => w'.cell? ⟨wo.heap.size, 0, none⟩ = some (.int .i64 2) ∧ w'.cell? ⟨wo.heap.size, 1, none⟩ = some (str name) ∧ w'.cell? ⟨w.heap.size, 0, none⟩ = some (.slice (some ⟨b, o, none⟩) p.1.length c) ∧ w'.cell? ⟨w.heap.size, 1, none⟩ = some (.slice A2 p.2.length c2) ∧ w'.cell? ⟨g, k, none⟩ = some (.int .i64 ov))
              (first | go_keep | ((try dsimp only); refine ⟨?_, ?_, ?_, ?_, ?_⟩ <;> (go_simp; done)))
              (first | (go_at_call 72; (with_reducible refine (HIV.out _).mono ?_); rintro e wB ⟨rfl, hbB⟩; have hzB := hbB.size; (try simp at hzB); (refine with_box hbB (wo.heap.size) ?_ ?_; (first | omega | (simp <;> omega)); intro n0 nf0 nz0); (refine with_box hbB (w.heap.size) ?_ ?_; (first | omega | (simp <;> omega)); intro m0 mf0 mz0); (refine with_box hbB (g) ?_ ?_; (first | omega | (simp <;> omega)); intro q0 qf0 qz0)) | (go_at_call 73; (with_reducible refine (HA1.out _ (by repeat (first | (with_reducible exact Below.refl _ _) | (with_reducible exact HB.out) | (with_reducible assumption) | ((with_reducible refine Below.alloc ?_ ?_ _); rotate_left; (first | omega | (simp <;> omega))) | ((with_reducible refine Below.setCell ?_ ?_ _); rotate_left; (first | omega | (simp <;> omega))) | (with_reducible refine below_drewN ?_ _) | (with_reducible refine Below.drew ?_) | ((with_reducible refine Below.step (by assumption) ?_ ?_); rotate_left; (first | omega | (simp <;> omega)))))).mono ?_); rintro e wB ⟨rfl, hbB⟩; have hzB := hbB.size; (try simp at hzB); (refine with_box hbB (wo.heap.size) ?_ ?_; (first | omega | (simp <;> omega)); intro n0 nf0 nz0); (refine with_box hbB (w.heap.size) ?_ ?_; (first | omega | (simp <;> omega)); intro m0 mf0 mz0); (refine with_box hbB (g) ?_ ?_; (first | omega | (simp <;> omega)); intro q0 qf0 qz0)) | fail)
            all_goals
              go_wp2_with fail
              go_ret
              exact ⟨⟨_, rfl, by rw [HF.out]; simp⟩, (by repeat (first | (with_reducible exact Below.refl _ _) | (with_reducible exact HB.out) | (with_reducible assumption) | ((with_reducible refine Below.alloc ?_ ?_ _); rotate_left; (first | omega | (simp <;> omega))) | ((with_reducible refine Below.setCell ?_ ?_ _); rotate_left; (first | omega | (simp <;> omega))) | (with_reducible refine below_drewN ?_ _) | (with_reducible refine Below.drew ?_) | ((with_reducible refine Below.step (by assumption) ?_ ?_); rotate_left; (first | omega | (simp <;> omega)))))⟩
      · -- a call
        cases har : decide (0 ≤ arityF name) with
        | true =>
          have HK := Lib.hid ((FIN.out true (by rw [nameOk8, har])).2 rfl)
          obtain ⟨an2, han⟩ : ∃ n, arityF name = n := ⟨_, rfl⟩
          have hn0 : ¬ an2 < 0 := by have := of_decide_eq_true har; omega
          have HAR := Lib.hid han
          go_wp2_with (first | (go_at_call 71; refine (S_Arity_is HAR.out _).mono ?_; rintro e w' ⟨rfl, rfl⟩) | fail)
          (try (go_quiet (fail); go_wp2_with (first | (go_at_call 71; refine (S_Arity_is HAR.out _).mono ?_; rintro e w' ⟨rfl, rfl⟩) | fail)))
          go_roundw
          case rel => exact ⟨k + 1, by omega, by go_num, HK.out, (by repeat (first | (with_reducible exact HP.out) | ((with_reducible refine Own.far ?_ ?_ _); rotate_left; (first | omega | (simp <;> omega))) | (with_reducible refine Own.alloc ?_ _) | (with_reducible refine Own.drewN ?_ _) | (with_reducible refine Own.drew ?_) | (with_reducible refine Own.step (by assumption) ?_))), (by repeat (first | (with_reducible exact HU.out) | ((with_reducible refine Own.far ?_ ?_ _); rotate_left; (first | omega | (simp <;> omega))) | (with_reducible refine Own.alloc ?_ _) | (with_reducible refine Own.drewN ?_ _) | (with_reducible refine Own.drew ?_) | (with_reducible refine Own.step (by assumption) ?_))), (by repeat (first | (with_reducible exact Below.refl _ _) | (with_reducible exact HB.out) | (with_reducible assumption) | ((with_reducible refine Below.alloc ?_ ?_ _); rotate_left; (first | omega | (simp <;> omega))) | ((with_reducible refine Below.setCell ?_ ?_ _); rotate_left; (first | omega | (simp <;> omega))) | (with_reducible refine below_drewN ?_ _) | (with_reducible refine Below.drew ?_) | ((with_reducible refine Below.step (by assumption) ?_ ?_); rotate_left; (first | omega | (simp <;> omega)))))⟩
          case measure => simp [RowKit.intOf] <;> omega
        | false =>
          have HF := Lib.hid ((FIN.out false (by rw [nameOk8, har])).1 rfl)
          obtain ⟨an2, han⟩ : ∃ n, arityF name = n := ⟨_, rfl⟩
          have hn0 : an2 < 0 := by have := of_decide_eq_false har; omega
          have HAR := Lib.hid han
          go_wp2_with (first | (go_at_call 71; refine (S_Arity_is HAR.out _).mono ?_; rintro e w' ⟨rfl, rfl⟩) | fail)
          (try (go_quiet (fail); go_wp2_with (first | (go_at_call 71; refine (S_Arity_is HAR.out _).mono ?_; rintro e w' ⟨rfl, rfl⟩) | fail)))
          go_ret
          exact ⟨⟨_, rfl, by rw [HF.out]; simp⟩, (by repeat (first | (with_reducible exact Below.refl _ _) | (with_reducible exact HB.out) | (with_reducible assumption) | ((with_reducible refine Below.alloc ?_ ?_ _); rotate_left; (first | omega | (simp <;> omega))) | ((with_reducible refine Below.setCell ?_ ?_ _); rotate_left; (first | omega | (simp <;> omega))) | (with_reducible refine below_drewN ?_ _) | (with_reducible refine Below.drew ?_) | ((with_reducible refine Below.step (by assumption) ?_ ?_); rotate_left; (first | omega | (simp <;> omega)))))⟩
      · have HK := Lib.hid ((FIN.out true (nameOk0 h2' h8')).2 rfl)
        have e2' : (op == 2) = false := by simpa using h2'
        have e8' : (op == 8) = false := by simpa using h8'
        go_wp2_with fail
        (try (go_quiet (fail); go_wp2_with fail))
        (try (go_quiet (fail); go_wp2_with fail))
        go_roundw
        case rel => exact ⟨k + 1, by omega, by go_num, HK.out, (by repeat (first | (with_reducible exact HP.out) | ((with_reducible refine Own.far ?_ ?_ _); rotate_left; (first | omega | (simp <;> omega))) | (with_reducible refine Own.alloc ?_ _) | (with_reducible refine Own.drewN ?_ _) | (with_reducible refine Own.drew ?_) | (with_reducible refine Own.step (by assumption) ?_))), (by repeat (first | (with_reducible exact HU.out) | ((with_reducible refine Own.far ?_ ?_ _); rotate_left; (first | omega | (simp <;> omega))) | (with_reducible refine Own.alloc ?_ _) | (with_reducible refine Own.drewN ?_ _) | (with_reducible refine Own.drew ?_) | (with_reducible refine Own.step (by assumption) ?_))), (by repeat (first | (with_reducible exact Below.refl _ _) | (with_reducible exact HB.out) | (with_reducible assumption) | ((with_reducible refine Below.alloc ?_ ?_ _); rotate_left; (first | omega | (simp <;> omega))) | ((with_reducible refine Below.setCell ?_ ?_ _); rotate_left; (first | omega | (simp <;> omega))) | (with_reducible refine below_drewN ?_ _) | (with_reducible refine Below.drew ?_) | ((with_reducible refine Below.step (by assumption) ?_ ?_); rotate_left; (first | omega | (simp <;> omega)))))⟩
        case measure => simp [RowKit.intOf] <;> omega
    · obtain rfl : k = p.1.length := by omega
      go_wp2_with fail
      go_ret
      exact ⟨⟨_, rfl, by rw [HT.out]; rfl⟩, HB.out⟩
end Go.Proofs.YtjipfgadamokaaaGreatDoor
