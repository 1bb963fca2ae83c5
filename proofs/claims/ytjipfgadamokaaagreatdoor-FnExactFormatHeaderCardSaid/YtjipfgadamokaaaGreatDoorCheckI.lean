/- Check and isOk of the program. -/
import Derived.Test.YtjipfgadamokaaaGreatDoorExprW
import Derived.Test.YtjipfgadamokaaaGreatDoorCheckS
import Derived.Test.YtjipfgadamokaaaGreatDoorUsesI
set_option linter.unusedVariables false
set_option linter.unusedSimpArgs false
namespace Go.Proofs.YtjipfgadamokaaaGreatDoor
open Go.RowKit Go.Lib Go.Maps Go.WideMaps
set_option maxRecDepth 100000
theorem first_in {p : EProg} {j : Nat} (hj : j < p.2.length) : ∃ f, firstTo p p.2[j].1 p.2.length = some f := by
  cases h : firstTo p p.2[j].1 p.2.length with
  | some f => exact ⟨f, rfl⟩
  | none => exact absurd rfl (firstTo_none (Nat.le_refl _) h j hj hj)
theorem first_color (p : EProg) (name : List UInt8) : (firstTo p name p.2.length).isSome = has p name p.2.length := by
  rw [← first_has]
  cases h : firstTo p name p.2.length with
  | none => rfl
  | some f =>
    obtain ⟨h1, _⟩ := firstTo_some (Nat.le_refl _) h
    simp; omega
set_option maxHeartbeats 16000000 in
theorem I_Check {A A2 : Option Addr} {c c2 : Nat} {p : EProg} (w : World) (h : ProgIn w A c A2 c2 p) (h1 : p.1.length ≤ 1048576) (h2 : p.2.length ≤ 1048576) :
    Calls Tryz.prog 84 #[vProg A p.1.length c A2 p.2.length c2] w (OutCheck (checkOk p) w) := by
  have H0 := Lib.hid h
  have HV0 : Hid (∀ wx, Below w.heap.size w wx → Calls Tryz.prog 89 #[vProg A p.1.length c A2 p.2.length c2] wx fun e w' => e = .returned (.bool (validP p)) ∧ Below wx.heap.size wx w') := Lib.hid (fun wx hb => I_IsValidProgram wx (h.step hb) h1 h2)
  clear h
  cases hv : validP p with
  | false =>
    have HF : Hid (checkOk p = false) := Lib.hid (by rw [checkOk_def, hv]; rfl)
    rw [hv] at HV0
    go_enter Tryz.func84, Tryz.ntmps84
    go_wp2_with (first | (go_at_call 89; refine (HV0.out _ (by repeat (first | (with_reducible exact Below.refl _ _) | (with_reducible assumption) | ((with_reducible refine Below.alloc ?_ ?_ _); rotate_left; (first | omega | (simp <;> omega))) | ((with_reducible refine Below.setCell ?_ ?_ _); rotate_left; (first | omega | (simp <;> omega))) | (with_reducible refine below_drewN ?_ _) | (with_reducible refine Below.drew ?_) | ((with_reducible refine Below.step (by assumption) ?_ ?_); rotate_left; (first | omega | (simp <;> omega)))))).mono ?_; rintro e w1 ⟨rfl, hb1⟩; have HB1 : Hid (Below w.heap.size w w1) := Lib.hid (Below.step hb1 (by repeat (first | (with_reducible exact Below.refl _ _) | (with_reducible assumption) | ((with_reducible refine Below.alloc ?_ ?_ _); rotate_left; (first | omega | (simp <;> omega))) | ((with_reducible refine Below.setCell ?_ ?_ _); rotate_left; (first | omega | (simp <;> omega))) | (with_reducible refine below_drewN ?_ _) | (with_reducible refine Below.drew ?_) | ((with_reducible refine Below.step (by assumption) ?_ ?_); rotate_left; (first | omega | (simp <;> omega))))) (by first | omega | (simp <;> omega))); clear hb1) | fail)
    exact bodyPost_ret (v := .tuple #[.int .i64 1, .int .i64 0]) (by simp [results, Tryz.results84, go_sem, *]) rfl ⟨⟨_, _, rfl, by rw [HF.out]; rfl⟩, HB1.out⟩
  | true =>
    have hl1 := valid_len hv
    have hl2 := assigns_len hv
    have HAS : Hid (∀ wx, Below w.heap.size w wx → Calls Tryz.prog 111 #[vProg A p.1.length c A2 p.2.length c2] wx fun e w' => ∃ B D, e = .returned (.map (some B)) ∧ MapAt w' B p.2.length D ∧ IsFirst p p.2.length D ∧ wx.heap.size ≤ B ∧ Below wx.heap.size wx w') := Lib.hid (fun wx hb => I_assigned wx ((H0.out.step hb).2) hl2)
    have HOW : Hid (∀ wx, Below w.heap.size w wx → Calls Tryz.prog 112 #[vProg A p.1.length c A2 p.2.length c2] wx fun e w' => ∃ g, e = .returned (sl g p.1.length) ∧ Own w' g 3 (ints (ownP p)) ∧ wx.heap.size ≤ g ∧ Below wx.heap.size wx w') := Lib.hid (fun wx hb => I_owners wx (H0.out.step hb) hv)
    have HCD : Hid (checkOk p = (namesTo p p.1.length && aritiesTo p p.1.length && asssTo p p.2.length && has p colorT p.2.length)) := Lib.hid (by rw [checkOk_def, hv]; rfl)
    rw [hv] at HV0
    clear hv
    go_enter Tryz.func84, Tryz.ntmps84
    go_upto_region 3 with (first | (go_at_call 89; refine (HV0.out _ (by repeat (first | (with_reducible exact Below.refl _ _) | (with_reducible assumption) | ((with_reducible refine Below.alloc ?_ ?_ _); rotate_left; (first | omega | (simp <;> omega))) | ((with_reducible refine Below.setCell ?_ ?_ _); rotate_left; (first | omega | (simp <;> omega))) | (with_reducible refine below_drewN ?_ _) | (with_reducible refine Below.drew ?_) | ((with_reducible refine Below.step (by assumption) ?_ ?_); rotate_left; (first | omega | (simp <;> omega)))))).mono ?_; rintro e w1 ⟨rfl, hb1⟩; have hz1 := hb1.size; (try simp at hz1); have HB1 : Hid (Below w.heap.size w w1) := Lib.hid (Below.step hb1 (by repeat (first | (with_reducible exact Below.refl _ _) | (with_reducible assumption) | ((with_reducible refine Below.alloc ?_ ?_ _); rotate_left; (first | omega | (simp <;> omega))) | ((with_reducible refine Below.setCell ?_ ?_ _); rotate_left; (first | omega | (simp <;> omega))) | (with_reducible refine below_drewN ?_ _) | (with_reducible refine Below.drew ?_) | ((with_reducible refine Below.step (by assumption) ?_ ?_); rotate_left; (first | omega | (simp <;> omega))))) (by first | omega | (simp <;> omega))); have HP1 : Hid (Own w1 w.heap.size 70 [.slice A p.1.length c, .slice A2 p.2.length c2]) := Lib.hid (Own.step hb1 (Own.new w _ #[_, _])); have r0 : w1.cell? ⟨w.heap.size, 0, none⟩ = some (.slice A p.1.length c) := HP1.out.cell 0; have r1 : w1.cell? ⟨w.heap.size, 1, none⟩ = some (.slice A2 p.2.length c2) := HP1.out.cell 1; clear hb1) | fail)
    go_cut [4, 5] (fun s4 s5 wx => ∃ (B g : Nat) (D : DataW Unit), s4 = .map (some B) ∧ s5 = sl g p.1.length ∧ MapAt wx B p.2.length D ∧ IsFirst p p.2.length D ∧ Own wx g 3 (ints (ownP p)) ∧ Own wx w.heap.size 70 [.slice A p.1.length c, .slice A2 p.2.length c2] ∧ Below w.heap.size w wx ∧ w.heap.size < g ∧ w.heap.size < B)
    case first =>
      go_region_held3 (fun w' => w'.cell? ⟨w.heap.size, 0, none⟩ = some (.slice A p.1.length c) ∧ w'.cell? ⟨w.heap.size, 1, none⟩ = some (.slice A2 p.2.length c2))
        (first | go_keep | ((try dsimp only); refine ⟨?_, ?_⟩ <;> (go_simp; done)))
        (first | (go_at_call 111; (with_reducible refine (HAS.out _ (by repeat (first | (with_reducible exact Below.refl _ _) | (with_reducible exact HB1.out) | (with_reducible assumption) | ((with_reducible refine Below.alloc ?_ ?_ _); rotate_left; (first | omega | (simp <;> omega))) | ((with_reducible refine Below.setCell ?_ ?_ _); rotate_left; (first | omega | (simp <;> omega))) | (with_reducible refine below_drewN ?_ _) | (with_reducible refine Below.drew ?_) | ((with_reducible refine Below.step (by assumption) ?_ ?_); rotate_left; (first | omega | (simp <;> omega)))))).mono ?_); rintro e wA ⟨B, D, rfl, hmA, hfA, hgA, hbA⟩; have hzA := hbA.size; (try simp at hzA hgA); (refine with_box hbA (w.heap.size) ?_ ?_; (first | omega | (simp <;> omega)); intro n0 nf0 nz0)) | (go_at_call 112; (with_reducible refine (HOW.out _ (by repeat (first | (with_reducible exact Below.refl _ _) | (with_reducible exact HB1.out) | (with_reducible assumption) | ((with_reducible refine Below.alloc ?_ ?_ _); rotate_left; (first | omega | (simp <;> omega))) | ((with_reducible refine Below.setCell ?_ ?_ _); rotate_left; (first | omega | (simp <;> omega))) | (with_reducible refine below_drewN ?_ _) | (with_reducible refine Below.drew ?_) | ((with_reducible refine Below.step (by assumption) ?_ ?_); rotate_left; (first | omega | (simp <;> omega)))))).mono ?_); rintro e wB ⟨g, rfl, hoB, hgB, hbB⟩; have hzB := hbB.size; (try simp at hzB hgB); (refine with_box hbB (w.heap.size) ?_ ?_; (first | omega | (simp <;> omega)); intro m0 mf0 mz0)) | fail)
      all_goals
        go_wp2_with fail
        go_meet
        refine ⟨B, g, D, rfl, rfl, ?_, hfA, ?_, (by repeat (first | (with_reducible exact HP1.out) | ((with_reducible refine Own.far ?_ ?_ _); rotate_left; (first | omega | (simp <;> omega))) | (with_reducible refine Own.alloc ?_ _) | (with_reducible refine Own.drewN ?_ _) | (with_reducible refine Own.drew ?_) | (with_reducible refine Own.step (by assumption) ?_))), (by repeat (first | (with_reducible exact Below.refl _ _) | (with_reducible exact HB1.out) | (with_reducible assumption) | ((with_reducible refine Below.alloc ?_ ?_ _); rotate_left; (first | omega | (simp <;> omega))) | ((with_reducible refine Below.setCell ?_ ?_ _); rotate_left; (first | omega | (simp <;> omega))) | (with_reducible refine below_drewN ?_ _) | (with_reducible refine Below.drew ?_) | ((with_reducible refine Below.step (by assumption) ?_ ?_); rotate_left; (first | omega | (simp <;> omega))))), ?_, ?_⟩
        · first | exact hmA | exact MapAt.step hmA hbB
        · first | exact hoB | exact Own.step hbA hoB
        · omega
        · omega
    case rest =>
    obtain ⟨B, g, D, rfl, rfl, hm2, hf2, ho2, hp2, hb2, hg2, hB2⟩ := hcut
    obtain ⟨w2, rfl⟩ : ∃ w2, w2 = wc := ⟨_, rfl⟩
    have HB2 := Lib.hid hb2
    have HP2 := Lib.hid hp2
    have HM2 := Lib.hid hm2
    have HO2 := Lib.hid ho2
    have HFI := Lib.hid hf2
    have s0 : w2.cell? ⟨w.heap.size, 0, none⟩ = some (.slice A p.1.length c) := HP2.out.cell 0
    have s1 : w2.cell? ⟨w.heap.size, 1, none⟩ = some (.slice A2 p.2.length c2) := HP2.out.cell 1
    clear hb2 hp2 hm2 ho2 hf2 HV0 HAS HOW r0 r1 HP1 HB1
    go_wp2_with fail
    go_loopw [6, 7, 24] (fun _ _ i wr => ∃ k : Nat, k ≤ p.1.length ∧ i = .int .i64 k ∧ namesTo p k = true ∧ MapAt wr B p.2.length D ∧ Own wr w.heap.size 70 [.slice A p.1.length c, .slice A2 p.2.length c2] ∧ Own wr g 3 (ints (ownP p)) ∧ Below w.heap.size w wr) (fun _ _ i _ => p.1.length - (RowKit.intOf i).toNat)
    case atStart => exact ⟨0, Nat.zero_le _, rfl, rfl, HM2.out, HP2.out, HO2.out, HB2.out⟩
    case round =>
      obtain ⟨k, hk, rfl, ht, hm, hp, hu, hb⟩ := hrel
      obtain ⟨wo, rfl⟩ : ∃ wo, wo = wr := ⟨_, rfl⟩
      have hz := hb.size
      have hl := hp.lt
      have hgl := hu.lt
      have hml := World.ownsMap.lt hm
      have HT := Lib.hid ht
      have HM := Lib.hid hm
      have HP := Lib.hid hp
      have HU := Lib.hid hu
      have HB := Lib.hid hb
      have p0 : wo.cell? ⟨w.heap.size, 0, none⟩ = some (.slice A p.1.length c) := hp.cell 0
      have p1 : wo.cell? ⟨w.heap.size, 1, none⟩ = some (.slice A2 p.2.length c2) := hp.cell 1
      clear hp hb ht hm s0 s1 HP2 HM2 HO2 HB2
      by_cases hlt : k < p.1.length
      · obtain ⟨b, o, A', c', rfl, hbh, hs, hr, x0, x1, x2, x3⟩ := H0.out.1.2.2 k hlt
        have d0 := (HB.out.cell (p := ⟨b, o + k * 4, none⟩) hbh).trans x0
        have d1 := (HB.out.cell (p := ⟨b, o + k * 4 + 1, none⟩) hbh).trans x1
        have d2 := (HB.out.cell (p := ⟨b, o + k * 4 + 2, none⟩) hbh).trans x2
        have d3 := (HB.out.cell (p := ⟨b, o + k * 4 + 3, none⟩) hbh).trans x3
        have HTS := Lib.hid (namesTo_succ hlt)
        obtain ⟨⟨op, name, num, args⟩, hx⟩ : ∃ x, p.1[k] = x := ⟨_, rfl⟩
        rw [hx] at d0 d1 d2 d3 HTS hs
        (try dsimp only at d0 d1 d2 d3 hs)
        have HX := Lib.hid hx
        have HSN := Lib.hid hs
        have e1 : wo.cell? ⟨g, k, none⟩ = some (.int .i64 ((ownP p).getD k 0)) := by rw [hu.cell, ints_getD (by rw [ownP_len]; exact hlt)]
        have i0 : (k : Int) < p.1.length := by omega
        have i00 : (0 : Int) ≤ k := by omega
        have FIN : Hid (∀ b, nameOk p k (op, name, num, args) = b → (b = false → namesTo p p.1.length = false) ∧ (b = true → namesTo p (k + 1) = true)) := Lib.hid (fun b hb => ⟨fun e => namesTo_no hlt (by rw [HX.out, hb, e]), fun e => by rw [HTS.out, HT.out, hb, e]; rfl⟩)
        have HKN : Hid (∀ bb, nameOk p k (op, name, num, args) = bb → ∀ wx, MapAt wx B p.2.length D → Calls Tryz.prog 113 #[.iface (exT op) (vNode op name num A' args.length c'), .int .i64 ((ownP p).getD k 0), .map (some B)] wx fun e w' => e = .returned (.bool bb) ∧ Below wx.heap.size wx w') := Lib.hid (fun bb hbb wx hmx => by subst hbb; exact I_known wx hmx HFI.out HSN.out)
        generalize hov : (ownP p).getD k 0 = ov at *
        generalize args.length = an at *
        clear x0 x1 x2 x3 hs hr hx hu
        have ng : ¬ g = wo.heap.size := by omega
        have nw : ¬ w.heap.size = wo.heap.size := by omega
        cases hnk : nameOk p k (op, name, num, args) with
        | true =>
          have HK := Lib.hid ((FIN.out true hnk).2 rfl)
          have HKT := Lib.hid (HKN.out true hnk)
          go_wp2_with fail
          go_region_held3 (fun w' => w'.cell? ⟨wo.heap.size, 0, none⟩ = some (.int .i64 op) ∧ w'.cell? ⟨wo.heap.size, 1, none⟩ = some (str name) ∧ w'.cell? ⟨wo.heap.size, 2, none⟩ = some (.int .i64 num) ∧ w'.cell? ⟨wo.heap.size, 3, none⟩ = some (.slice A' an c') ∧ w'.cell? ⟨g, k, none⟩ = some (.int .i64 ov))
            (first | go_keep | ((try dsimp only); refine ⟨?_, ?_, ?_, ?_, ?_⟩ <;> (go_simp; done)))
            (first | (go_at_call 114; (with_reducible refine (I_exprOf _).mono ?_); rintro e wA ⟨rfl, hbA⟩; have hzA := hbA.size; (try simp at hzA); (refine with_box hbA (wo.heap.size) ?_ ?_; (first | omega | (simp <;> omega)); intro n0 nf0 nz0); (refine with_box hbA (w.heap.size) ?_ ?_; (first | omega | (simp <;> omega)); intro m0 mf0 mz0); (refine with_box hbA (g) ?_ ?_; (first | omega | (simp <;> omega)); intro q0 qf0 qz0)) | (go_at_call 113; (with_reducible refine (HKT.out _ (MapAt.step HM.out (by repeat (first | (with_reducible exact Below.refl _ _) | (with_reducible assumption) | ((with_reducible refine Below.alloc ?_ ?_ _); rotate_left; (first | omega | (simp <;> omega))) | ((with_reducible refine Below.setCell ?_ ?_ _); rotate_left; (first | omega | (simp <;> omega))) | (with_reducible refine below_drewN ?_ _) | (with_reducible refine Below.drew ?_) | ((with_reducible refine Below.step (by assumption) ?_ ?_); rotate_left; (first | omega | (simp <;> omega))))))).mono ?_); rintro e wB ⟨rfl, hbB⟩; have hzB := hbB.size; (try simp at hzB); (refine with_box hbB (wo.heap.size) ?_ ?_; (first | omega | (simp <;> omega)); intro a0 af0 az0); (refine with_box hbB (w.heap.size) ?_ ?_; (first | omega | (simp <;> omega)); intro b0 bf0 bz0); (refine with_box hbB (g) ?_ ?_; (first | omega | (simp <;> omega)); intro c0 cf0 cz0)) | fail)
          all_goals
            go_wp2_with fail
            go_roundw
            case rel => exact ⟨k + 1, by omega, by go_num, HK.out, MapAt.step HM.out (by repeat (first | (with_reducible exact Below.refl _ _) | (with_reducible assumption) | ((with_reducible refine Below.alloc ?_ ?_ _); rotate_left; (first | omega | (simp <;> omega))) | ((with_reducible refine Below.setCell ?_ ?_ _); rotate_left; (first | omega | (simp <;> omega))) | (with_reducible refine below_drewN ?_ _) | (with_reducible refine Below.drew ?_) | ((with_reducible refine Below.step (by assumption) ?_ ?_); rotate_left; (first | omega | (simp <;> omega))))), (by repeat (first | (with_reducible exact HP.out) | ((with_reducible refine Own.far ?_ ?_ _); rotate_left; (first | omega | (simp <;> omega))) | (with_reducible refine Own.alloc ?_ _) | (with_reducible refine Own.drewN ?_ _) | (with_reducible refine Own.drew ?_) | (with_reducible refine Own.step (by assumption) ?_))), (by repeat (first | (with_reducible exact HU.out) | ((with_reducible refine Own.far ?_ ?_ _); rotate_left; (first | omega | (simp <;> omega))) | (with_reducible refine Own.alloc ?_ _) | (with_reducible refine Own.drewN ?_ _) | (with_reducible refine Own.drew ?_) | (with_reducible refine Own.step (by assumption) ?_))), (by repeat (first | (with_reducible exact Below.refl _ _) | (with_reducible exact HB.out) | (with_reducible assumption) | ((with_reducible refine Below.alloc ?_ ?_ _); rotate_left; (first | omega | (simp <;> omega))) | ((with_reducible refine Below.setCell ?_ ?_ _); rotate_left; (first | omega | (simp <;> omega))) | (with_reducible refine below_drewN ?_ _) | (with_reducible refine Below.drew ?_) | ((with_reducible refine Below.step (by assumption) ?_ ?_); rotate_left; (first | omega | (simp <;> omega)))))⟩
            case measure => simp [RowKit.intOf] <;> omega
        | false =>
          have HF := Lib.hid ((FIN.out false hnk).1 rfl)
          have HKT := Lib.hid (HKN.out false hnk)
          have HFF : Hid (checkOk p = false) := Lib.hid (by rw [HCD.out, HF.out]; rfl)
          go_wp2_with fail
          go_region_held3 (fun w' => w'.cell? ⟨wo.heap.size, 0, none⟩ = some (.int .i64 op) ∧ w'.cell? ⟨wo.heap.size, 1, none⟩ = some (str name) ∧ w'.cell? ⟨wo.heap.size, 2, none⟩ = some (.int .i64 num) ∧ w'.cell? ⟨wo.heap.size, 3, none⟩ = some (.slice A' an c') ∧ w'.cell? ⟨g, k, none⟩ = some (.int .i64 ov))
            (first | go_keep | ((try dsimp only); refine ⟨?_, ?_, ?_, ?_, ?_⟩ <;> (go_simp; done)))
            (first | (go_at_call 114; (with_reducible refine (I_exprOf _).mono ?_); rintro e wA ⟨rfl, hbA⟩; have hzA := hbA.size; (try simp at hzA); (refine with_box hbA (wo.heap.size) ?_ ?_; (first | omega | (simp <;> omega)); intro n0 nf0 nz0); (refine with_box hbA (w.heap.size) ?_ ?_; (first | omega | (simp <;> omega)); intro m0 mf0 mz0); (refine with_box hbA (g) ?_ ?_; (first | omega | (simp <;> omega)); intro q0 qf0 qz0)) | (go_at_call 113; (with_reducible refine (HKT.out _ (MapAt.step HM.out (by repeat (first | (with_reducible exact Below.refl _ _) | (with_reducible assumption) | ((with_reducible refine Below.alloc ?_ ?_ _); rotate_left; (first | omega | (simp <;> omega))) | ((with_reducible refine Below.setCell ?_ ?_ _); rotate_left; (first | omega | (simp <;> omega))) | (with_reducible refine below_drewN ?_ _) | (with_reducible refine Below.drew ?_) | ((with_reducible refine Below.step (by assumption) ?_ ?_); rotate_left; (first | omega | (simp <;> omega))))))).mono ?_); rintro e wB ⟨rfl, hbB⟩; have hzB := hbB.size; (try simp at hzB); (refine with_box hbB (wo.heap.size) ?_ ?_; (first | omega | (simp <;> omega)); intro a0 af0 az0); (refine with_box hbB (w.heap.size) ?_ ?_; (first | omega | (simp <;> omega)); intro b0 bf0 bz0); (refine with_box hbB (g) ?_ ?_; (first | omega | (simp <;> omega)); intro c0 cf0 cz0)) | fail)
          all_goals
            go_wp2_with fail
            exact bodyPost_ret (v := .tuple #[.int .i64 2, .int .i64 k]) (by simp [results, Tryz.results84, go_sem, *]) rfl ⟨⟨_, _, rfl, by rw [HFF.out]; rfl⟩, (by repeat (first | (with_reducible exact Below.refl _ _) | (with_reducible exact HB.out) | (with_reducible assumption) | ((with_reducible refine Below.alloc ?_ ?_ _); rotate_left; (first | omega | (simp <;> omega))) | ((with_reducible refine Below.setCell ?_ ?_ _); rotate_left; (first | omega | (simp <;> omega))) | (with_reducible refine below_drewN ?_ _) | (with_reducible refine Below.drew ?_) | ((with_reducible refine Below.step (by assumption) ?_ ?_); rotate_left; (first | omega | (simp <;> omega)))))⟩
      · obtain rfl : k = p.1.length := by omega
        have HNT := HT
        clear HT hu hz hl hgl hml
        have hz := HB.out.size
        have hl := HP.out.lt
        have hml := World.ownsMap.lt HM.out
        go_wp2_with fail
        go_loopw [8, 9, 43] (fun _ _ i wr => ∃ k : Nat, k ≤ p.1.length ∧ i = .int .i64 k ∧ aritiesTo p k = true ∧ MapAt wr B p.2.length D ∧ Own wr w.heap.size 70 [.slice A p.1.length c, .slice A2 p.2.length c2] ∧ Below w.heap.size w wr) (fun _ _ i _ => p.1.length - (RowKit.intOf i).toNat)
        case atStart => exact ⟨0, Nat.zero_le _, rfl, rfl, HM.out, HP.out, HB.out⟩
        case round =>
          clear hz hl hml
          obtain ⟨k, hk2, rfl, ht, hm, hp, hb⟩ := hrel
          obtain ⟨wi, rfl⟩ : ∃ wi, wi = wr := ⟨_, rfl⟩
          have hz := hb.size
          have hl := hp.lt
          have hml := World.ownsMap.lt hm
          have HT := Lib.hid ht
          have HM3 := Lib.hid hm
          have HP3 := Lib.hid hp
          have HB3 := Lib.hid hb
          have q0 : wi.cell? ⟨w.heap.size, 0, none⟩ = some (.slice A p.1.length c) := hp.cell 0
          have q1 : wi.cell? ⟨w.heap.size, 1, none⟩ = some (.slice A2 p.2.length c2) := hp.cell 1
          clear hp hb ht hm p0 p1
          by_cases hlt : k < p.1.length
          · obtain ⟨b, o, A', c', rfl, hbh, hs, hr, x0, x1, x2, x3⟩ := H0.out.1.2.2 k hlt
            have d0 := (HB3.out.cell (p := ⟨b, o + k * 4, none⟩) hbh).trans x0
            have d1 := (HB3.out.cell (p := ⟨b, o + k * 4 + 1, none⟩) hbh).trans x1
            have d2 := (HB3.out.cell (p := ⟨b, o + k * 4 + 2, none⟩) hbh).trans x2
            have d3 := (HB3.out.cell (p := ⟨b, o + k * 4 + 3, none⟩) hbh).trans x3
            have HTS := Lib.hid (aritiesTo_succ hlt)
            obtain ⟨⟨op, name, num, args⟩, hx⟩ : ∃ x, p.1[k] = x := ⟨_, rfl⟩
            rw [hx] at d0 d1 d2 d3 HTS
            (try dsimp only at d0 d1 d2 d3)
            have HX := Lib.hid hx
            have i0 : (k : Int) < p.1.length := by omega
            have i00 : (0 : Int) ≤ k := by omega
            have FIN : Hid (∀ b, arityOk (op, name, num, args) = b → (b = false → checkOk p = false) ∧ (b = true → aritiesTo p (k + 1) = true)) := Lib.hid (fun b hb => ⟨fun e => by rw [HCD.out, aritiesTo_no hlt (by rw [HX.out, hb, e])]; simp, fun e => by rw [HTS.out, HT.out, hb, e]; rfl⟩)
            have HFT : Hid (∀ bb, arityOk (op, name, num, args) = bb → ∀ wx, Calls Tryz.prog 115 #[.iface (exT op) (vNode op name num A' args.length c')] wx fun e w' => e = .returned (.bool bb) ∧ Below wx.heap.size wx w') := Lib.hid (fun bb hbb wx => by subst hbb; exact I_fitting wx)
            generalize args.length = an at *
            clear x0 x1 x2 x3 hs hr hx
            cases hnk : arityOk (op, name, num, args) with
            | true =>
              have HK := Lib.hid ((FIN.out true hnk).2 rfl)
              have HKT := Lib.hid (HFT.out true hnk)
              go_wp2_with (first | (go_at_call 114; (with_reducible refine (I_exprOf _).mono ?_); rintro e wA ⟨rfl, hbA⟩; have hzA := hbA.size; (try simp at hzA); have HBA : Hid (Below w.heap.size w wA) := Lib.hid (Below.step hbA (by repeat (first | (with_reducible exact Below.refl _ _) | (with_reducible exact HB3.out) | (with_reducible assumption) | ((with_reducible refine Below.alloc ?_ ?_ _); rotate_left; (first | omega | (simp <;> omega))) | ((with_reducible refine Below.setCell ?_ ?_ _); rotate_left; (first | omega | (simp <;> omega))) | (with_reducible refine below_drewN ?_ _) | (with_reducible refine Below.drew ?_) | ((with_reducible refine Below.step (by assumption) ?_ ?_); rotate_left; (first | omega | (simp <;> omega))))) (by first | omega | (simp <;> omega))); have HPA : Hid (Own wA w.heap.size 70 [.slice (some ⟨b, o, none⟩) p.1.length c, .slice A2 p.2.length c2]) := Lib.hid (Own.step hbA (by repeat (first | (with_reducible exact HP3.out) | ((with_reducible refine Own.far ?_ ?_ _); rotate_left; (first | omega | (simp <;> omega))) | (with_reducible refine Own.alloc ?_ _) | (with_reducible refine Own.drewN ?_ _) | (with_reducible refine Own.drew ?_) | (with_reducible refine Own.step (by assumption) ?_)))); have HMA : Hid (MapAt wA B p.2.length D) := Lib.hid (MapAt.step HM3.out (by repeat (first | (with_reducible exact Below.refl _ _) | (with_reducible assumption) | ((with_reducible refine Below.alloc ?_ ?_ _); rotate_left; (first | omega | (simp <;> omega))) | ((with_reducible refine Below.setCell ?_ ?_ _); rotate_left; (first | omega | (simp <;> omega))) | (with_reducible refine below_drewN ?_ _) | (with_reducible refine Below.drew ?_) | ((with_reducible refine Below.step (by assumption) ?_ ?_); rotate_left; (first | omega | (simp <;> omega)))))); clear hbA) | (go_at_call 115; (with_reducible refine (HKT.out _).mono ?_); rintro e wB ⟨rfl, hbB⟩; have hzB := hbB.size; have HBB : Hid (Below w.heap.size w wB) := Lib.hid (Below.step hbB HBA.out HBA.out.size); have HPB : Hid (Own wB w.heap.size 70 [.slice (some ⟨b, o, none⟩) p.1.length c, .slice A2 p.2.length c2]) := Lib.hid (Own.step hbB HPA.out); have HMB : Hid (MapAt wB B p.2.length D) := Lib.hid (MapAt.step HMA.out hbB); clear hbB) | fail)
              go_roundw
              case rel => exact ⟨k + 1, by omega, by go_num, HK.out, HMB.out, HPB.out, HBB.out⟩
              case measure => simp [RowKit.intOf] <;> omega
            | false =>
              have HF := Lib.hid ((FIN.out false hnk).1 rfl)
              have HKT := Lib.hid (HFT.out false hnk)
              go_wp2_with (first | (go_at_call 114; (with_reducible refine (I_exprOf _).mono ?_); rintro e wA ⟨rfl, hbA⟩; have hzA := hbA.size; (try simp at hzA); have HBA : Hid (Below w.heap.size w wA) := Lib.hid (Below.step hbA (by repeat (first | (with_reducible exact Below.refl _ _) | (with_reducible exact HB3.out) | (with_reducible assumption) | ((with_reducible refine Below.alloc ?_ ?_ _); rotate_left; (first | omega | (simp <;> omega))) | ((with_reducible refine Below.setCell ?_ ?_ _); rotate_left; (first | omega | (simp <;> omega))) | (with_reducible refine below_drewN ?_ _) | (with_reducible refine Below.drew ?_) | ((with_reducible refine Below.step (by assumption) ?_ ?_); rotate_left; (first | omega | (simp <;> omega))))) (by first | omega | (simp <;> omega))); clear hbA) | (go_at_call 115; (with_reducible refine (HKT.out _).mono ?_); rintro e wB ⟨rfl, hbB⟩; have hzB := hbB.size; have HBB : Hid (Below w.heap.size w wB) := Lib.hid (Below.step hbB HBA.out HBA.out.size); clear hbB) | fail)
              exact bodyPost_ret (v := .tuple #[.int .i64 3, .int .i64 k]) (by simp [results, Tryz.results84, go_sem, *]) rfl ⟨⟨_, _, rfl, by rw [HF.out]; rfl⟩, HBB.out⟩
          · obtain rfl : k = p.1.length := by omega
            have HAT := HT
            clear HT
            go_wp2_with fail
            go_loopw [10, 11, 57] (fun _ _ i wr => ∃ j : Nat, j ≤ p.2.length ∧ i = .int .i64 j ∧ asssTo p j = true ∧ MapAt wr B p.2.length D ∧ Own wr w.heap.size 70 [.slice A p.1.length c, .slice A2 p.2.length c2] ∧ Below w.heap.size w wr) (fun _ _ i _ => p.2.length - (RowKit.intOf i).toNat)
            case atStart => exact ⟨0, Nat.zero_le _, rfl, rfl, HM3.out, HP3.out, HB3.out⟩
            case round =>
              clear hz hl hml
              obtain ⟨j, hj, rfl, ha, hm, hp, hb⟩ := hrel
              obtain ⟨wu, rfl⟩ : ∃ wu, wu = wr := ⟨_, rfl⟩
              have hz := hb.size
              have hl := hp.lt
              have hml := World.ownsMap.lt hm
              have HA := Lib.hid ha
              have HM4 := Lib.hid hm
              have HP4 := Lib.hid hp
              have HB4 := Lib.hid hb
              clear hp hb ha hm q0 q1
              by_cases hlj : j < p.2.length
              · obtain ⟨b, o, rfl, hbh, hs, x0, x1⟩ := H0.out.2.2.2 j hlj
                have d0 := (HB4.out.cell (p := ⟨b, o + j * 2, none⟩) hbh).trans x0
                have d1 := (HB4.out.cell (p := ⟨b, o + j * 2 + 1, none⟩) hbh).trans x1
                have HTS := Lib.hid (asssTo_succ hlj)
                obtain ⟨f, hf⟩ := first_in hlj
                obtain ⟨⟨nm, rt⟩, hx⟩ : ∃ x, p.2[j] = x := ⟨_, rfl⟩
                rw [hx] at d0 d1 hs HTS hf
                (try dsimp only at d0 d1 hs hf)
                have HX := Lib.hid hx
                have i1 : (j : Int) < p.2.length := by omega
                have i2 : (0 : Int) ≤ j := by omega
                have FIN : Hid (∀ b, assOk p j (nm, rt) = b → (b = false → checkOk p = false) ∧ (b = true → asssTo p (j + 1) = true)) := Lib.hid (fun b hb => ⟨fun e => by rw [HCD.out, asssTo_no hlj (by rw [HX.out, hb, e])]; simp, fun e => by rw [HTS.out, HA.out, hb, e]; rfl⟩)
                have HHS : Hid (has p nm j = decide ((f : Int) < (j : Int))) := Lib.hid (by rw [← first_has, hf])
                have HIV : Hid (∀ wx, Calls Tryz.prog 116 #[str nm] wx fun e w' => e = .returned (.bool (isVar nm)) ∧ wx = w') := Lib.hid (fun wx => I_IsVariable nm wx)
                have hlk : (Instr.lookup 149 (.map (some B)) (str nm) false).run Tryz.prog (wu.alloc (.cells #[str nm, .int .i64 rt] 114)) = .ok (.int .i64 f) (wu.alloc (.cells #[str nm, .int .i64 rt] 114)) := by
                  obtain ⟨cc, hrun, hat, hwc⟩ := World.ownsMap.lookup_int (World.ownsMap.alloc HM4.out (.cells #[str nm, .int .i64 rt] 114)) keyS Tryz.underlying149 Tryz.underlying3 (zeroI _) (key_str hs)
                  rw [HFI.out.at_ nm f hf] at hat
                  injection hat with hat
                  injection hat with _ hat
                  rw [hat]; exact hrun
                clear x0 x1 hs hx hf
                cases hvr : isVar nm with
                | true =>
                  have HF := Lib.hid ((FIN.out false (by unfold assOk; rw [hvr]; rfl)).1 rfl)
                  rw [hvr] at HIV
                  go_wp2_with (first | (go_at_call 116; refine (HIV.out _).mono ?_; rintro e w' ⟨rfl, rfl⟩) | fail)
                  exact bodyPost_ret (v := .tuple #[.int .i64 4, .int .i64 j]) (by simp [results, Tryz.results84, go_sem, *]) rfl ⟨⟨_, _, rfl, by rw [HF.out]; rfl⟩, (by repeat (first | (with_reducible exact Below.refl _ _) | (with_reducible exact HB4.out) | (with_reducible assumption) | ((with_reducible refine Below.alloc ?_ ?_ _); rotate_left; (first | omega | (simp <;> omega))) | ((with_reducible refine Below.setCell ?_ ?_ _); rotate_left; (first | omega | (simp <;> omega))) | (with_reducible refine below_drewN ?_ _) | (with_reducible refine Below.drew ?_) | ((with_reducible refine Below.step (by assumption) ?_ ?_); rotate_left; (first | omega | (simp <;> omega)))))⟩
                | false =>
                  rw [hvr] at HIV
                  by_cases hfj : (f : Int) < (j : Int)
                  · have HF := Lib.hid ((FIN.out false (by unfold assOk; rw [hvr, HHS.out, decide_eq_true hfj]; rfl)).1 rfl)
                    go_wp2_with (first | (go_at_call 116; refine (HIV.out _).mono ?_; rintro e w' ⟨rfl, rfl⟩) | fail)
                    exact bodyPost_ret (v := .tuple #[.int .i64 4, .int .i64 j]) (by simp [results, Tryz.results84, go_sem, *]) rfl ⟨⟨_, _, rfl, by rw [HF.out]; rfl⟩, (by repeat (first | (with_reducible exact Below.refl _ _) | (with_reducible exact HB4.out) | (with_reducible assumption) | ((with_reducible refine Below.alloc ?_ ?_ _); rotate_left; (first | omega | (simp <;> omega))) | ((with_reducible refine Below.setCell ?_ ?_ _); rotate_left; (first | omega | (simp <;> omega))) | (with_reducible refine below_drewN ?_ _) | (with_reducible refine Below.drew ?_) | ((with_reducible refine Below.step (by assumption) ?_ ?_); rotate_left; (first | omega | (simp <;> omega)))))⟩
                  · have HK := Lib.hid ((FIN.out true (by unfold assOk; rw [hvr, HHS.out, decide_eq_false hfj]; rfl)).2 rfl)
                    go_wp2_with (first | (go_at_call 116; refine (HIV.out _).mono ?_; rintro e w' ⟨rfl, rfl⟩) | fail)
                    go_roundw
                    case rel => exact ⟨j + 1, by omega, by go_num, HK.out, MapAt.step HM4.out (by repeat (first | (with_reducible exact Below.refl _ _) | (with_reducible assumption) | ((with_reducible refine Below.alloc ?_ ?_ _); rotate_left; (first | omega | (simp <;> omega))) | ((with_reducible refine Below.setCell ?_ ?_ _); rotate_left; (first | omega | (simp <;> omega))) | (with_reducible refine below_drewN ?_ _) | (with_reducible refine Below.drew ?_) | ((with_reducible refine Below.step (by assumption) ?_ ?_); rotate_left; (first | omega | (simp <;> omega))))), (by repeat (first | (with_reducible exact HP4.out) | ((with_reducible refine Own.far ?_ ?_ _); rotate_left; (first | omega | (simp <;> omega))) | (with_reducible refine Own.alloc ?_ _) | (with_reducible refine Own.drewN ?_ _) | (with_reducible refine Own.drew ?_) | (with_reducible refine Own.step (by assumption) ?_))), (by repeat (first | (with_reducible exact Below.refl _ _) | (with_reducible exact HB4.out) | (with_reducible assumption) | ((with_reducible refine Below.alloc ?_ ?_ _); rotate_left; (first | omega | (simp <;> omega))) | ((with_reducible refine Below.setCell ?_ ?_ _); rotate_left; (first | omega | (simp <;> omega))) | (with_reducible refine below_drewN ?_ _) | (with_reducible refine Below.drew ?_) | ((with_reducible refine Below.step (by assumption) ?_ ?_); rotate_left; (first | omega | (simp <;> omega)))))⟩
                    case measure => simp [RowKit.intOf] <;> omega
              · obtain rfl : j = p.2.length := by omega
                have HCE : Hid (checkOk p = has p colorT p.2.length) := Lib.hid (by rw [HCD.out, HNT.out, HAT.out, HA.out]; rfl)
                have hkey : keyOf Tryz.prog 9 (.string ⟨#[99, 111, 108, 111, 114]⟩) = some (.string colorT) := key_str (l := colorT) (by decide)
                have HHC : Hid (Maps.has D (.string colorT) = has p colorT p.2.length) := Lib.hid (by rw [HFI.out.has, first_color])
                cases hhc : has p colorT p.2.length with
                | true =>
                  rw [hhc] at HHC HCE
                  go_wp2_with (first | (at_lookup; refine wpList_lookup_own_ok_int _ rfl _ _ 149 rfl 9 3 .i64 keyS Tryz.underlying149 Tryz.underlying3 (zeroI _) B p.2.length D rfl HM4.out _ _ rfl hkey ?_; intro cc hat hwc; rw [HHC.out]; clear hat hwc) | fail)
                  exact bodyPost_ret (v := .tuple #[.int .i64 0, .int .i64 0]) (by simp [results, Tryz.results84, go_sem, *]) rfl ⟨⟨_, _, rfl, by rw [HCE.out]; rfl⟩, (by repeat (first | (with_reducible exact Below.refl _ _) | (with_reducible exact HB4.out) | (with_reducible assumption) | ((with_reducible refine Below.alloc ?_ ?_ _); rotate_left; (first | omega | (simp <;> omega))) | ((with_reducible refine Below.setCell ?_ ?_ _); rotate_left; (first | omega | (simp <;> omega))) | (with_reducible refine below_drewN ?_ _) | (with_reducible refine Below.drew ?_) | ((with_reducible refine Below.step (by assumption) ?_ ?_); rotate_left; (first | omega | (simp <;> omega)))))⟩
                | false =>
                  rw [hhc] at HHC HCE
                  go_wp2_with (first | (at_lookup; refine wpList_lookup_own_ok_int _ rfl _ _ 149 rfl 9 3 .i64 keyS Tryz.underlying149 Tryz.underlying3 (zeroI _) B p.2.length D rfl HM4.out _ _ rfl hkey ?_; intro cc hat hwc; rw [HHC.out]; clear hat hwc) | fail)
                  exact bodyPost_ret (v := .tuple #[.int .i64 5, .int .i64 0]) (by simp [results, Tryz.results84, go_sem, *]) rfl ⟨⟨_, _, rfl, by rw [HCE.out]; rfl⟩, (by repeat (first | (with_reducible exact Below.refl _ _) | (with_reducible exact HB4.out) | (with_reducible assumption) | ((with_reducible refine Below.alloc ?_ ?_ _); rotate_left; (first | omega | (simp <;> omega))) | ((with_reducible refine Below.setCell ?_ ?_ _); rotate_left; (first | omega | (simp <;> omega))) | (with_reducible refine below_drewN ?_ _) | (with_reducible refine Below.drew ?_) | ((with_reducible refine Below.step (by assumption) ?_ ?_); rotate_left; (first | omega | (simp <;> omega)))))⟩
set_option maxHeartbeats 4000000 in
theorem I_isOk {A A2 : Option Addr} {c c2 : Nat} {p : EProg} (w : World) (h : ProgIn w A c A2 c2 p) (h1 : p.1.length ≤ 1048576) (h2 : p.2.length ≤ 1048576) :
    Calls Tryz.prog 53 #[vProg A p.1.length c A2 p.2.length c2] w fun e w' => e = .returned (.bool (checkOk p)) ∧ Below w.heap.size w w' := by
  have HC : Hid (∀ wx, Below w.heap.size w wx → Calls Tryz.prog 84 #[vProg A p.1.length c A2 p.2.length c2] wx (OutCheck (checkOk p) wx)) := Lib.hid (fun wx hb => I_Check wx (h.step hb) h1 h2)
  clear h
  go_enter Tryz.func53, Tryz.ntmps53
  go_wp2_with (first | (go_at_call 84; refine (HC.out _ (by repeat (first | (with_reducible exact Below.refl _ _) | (with_reducible assumption) | ((with_reducible refine Below.alloc ?_ ?_ _); rotate_left; (first | omega | (simp <;> omega))) | ((with_reducible refine Below.setCell ?_ ?_ _); rotate_left; (first | omega | (simp <;> omega))) | (with_reducible refine below_drewN ?_ _) | (with_reducible refine Below.drew ?_) | ((with_reducible refine Below.step (by assumption) ?_ ?_); rotate_left; (first | omega | (simp <;> omega)))))).mono ?_; rintro e w1 ⟨⟨x, y, rfl, hxy⟩, hb1⟩; have HXY := Lib.hid hxy; have HB1 : Hid (Below w.heap.size w w1) := Lib.hid (Below.step hb1 (by repeat (first | (with_reducible exact Below.refl _ _) | (with_reducible assumption) | ((with_reducible refine Below.alloc ?_ ?_ _); rotate_left; (first | omega | (simp <;> omega))) | ((with_reducible refine Below.setCell ?_ ?_ _); rotate_left; (first | omega | (simp <;> omega))) | (with_reducible refine below_drewN ?_ _) | (with_reducible refine Below.drew ?_) | ((with_reducible refine Below.step (by assumption) ?_ ?_); rotate_left; (first | omega | (simp <;> omega))))) (by first | omega | (simp <;> omega))); clear hb1 hxy) | fail)
  go_ret
  exact ⟨ret_bool (by rw [← HXY.out]; rw [Bool.eq_iff_iff]; simp), HB1.out⟩
end Go.Proofs.YtjipfgadamokaaaGreatDoor
