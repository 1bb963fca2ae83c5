/- MADE BY PROGRAM (gendig.py). SceneDigest, FormatHeader. -/
import Derived.Test.YtjipfgadamokaaaGreatDoorFmtScnI
import Derived.Test.YtjipfgadamokaaaGreatDoorMgD
set_option linter.unusedVariables false
set_option linter.unusedSimpArgs false
namespace Go.Proofs.YtjipfgadamokaaaGreatDoor
open Go.RowKit Go.Lib
set_option maxRecDepth 100000
theorem byteInts_len (l : List UInt8) : (byteInts l).length = l.length := by simp [byteInts]
theorem byteInts_take {l : List UInt8} {k : Nat} (h : k < l.length) : ints (byteInts (l.take (k + 1))) = ints (byteInts (l.take k)) ++ [.int .i64 (l[k].toNat : Int)] := by
  rw [List.take_succ_eq_append_getElem h]; unfold byteInts; rw [List.map_append]; show List.map _ (_ ++ _) = _; rw [List.map_append]; rfl
theorem one_int (n : Int) : ∀ u ∈ [Value.int .i64 n], u.oneCell' = true := by
  intro u hu
  obtain rfl : u = Value.int .i64 n := by simpa using hu
  rfl
theorem digS_in (s : EScene) : inNum (digS s) := by
  unfold digS
  split
  · have := hashF_rng (byteInts (sceneT s)); unfold inNum; omega
  · unfold inNum; omega
set_option maxHeartbeats 16000000 in
theorem S_SceneDigest {s : EScene} {TA P Q : Option Addr} {tc pc qc : Nat} (w : World) (h : SceneIn w s TA tc P pc Q qc) :
    Calls Tryz.prog 6 #[vScene s TA tc P pc Q qc] w fun e w' => e = .returned (.int .i64 (digS s)) ∧ Below w.heap.size w w' := by
  have HVS : Hid (∀ b, sceneOk s = b → ∀ wx, Below w.heap.size w wx → Calls Tryz.prog 15 #[vScene s TA tc P pc Q qc] wx fun e w' => e = .returned (.bool b) ∧ Below wx.heap.size wx w') := Lib.hid (fun b hb wx hbx => by subst hb; exact S_IsValidScene wx (h.step hbx))
  cases hok : sceneOk s with
  | false =>
    have HF : Hid (digS s = -1) := Lib.hid (by unfold digS; rw [hok]; rfl)
    clear h
    go_enter Tryz.func6, Tryz.ntmps6
    go_wp2_with (first | (go_at_call 15; (with_reducible refine (HVS.out false hok _ (by repeat (first | (with_reducible exact Below.refl _ _) | (with_reducible assumption) | ((with_reducible refine Below.alloc ?_ ?_ _); rotate_left; (first | omega | (simp <;> omega))) | ((with_reducible refine Below.setCell ?_ ?_ _); rotate_left; (first | omega | (simp <;> omega))) | (with_reducible refine below_drewN ?_ _) | (with_reducible refine Below.drew ?_) | ((with_reducible refine Below.step (by assumption) ?_ ?_); rotate_left; (first | omega | (simp <;> omega)))))).mono ?_); rintro e w1 ⟨rfl, hb1⟩; have HB1 : Hid (Below w.heap.size w w1) := Lib.hid (Below.step hb1 (by repeat (first | (with_reducible exact Below.refl _ _) | (with_reducible assumption) | ((with_reducible refine Below.alloc ?_ ?_ _); rotate_left; (first | omega | (simp <;> omega))) | ((with_reducible refine Below.setCell ?_ ?_ _); rotate_left; (first | omega | (simp <;> omega))) | (with_reducible refine below_drewN ?_ _) | (with_reducible refine Below.drew ?_) | ((with_reducible refine Below.step (by assumption) ?_ ?_); rotate_left; (first | omega | (simp <;> omega))))) (by first | omega | (simp <;> omega))); clear hb1) | fail)
    go_ret
    exact ⟨by rw [HF.out]; rfl, HB1.out⟩
  | true =>
  have HF : Hid (digS s = hashF (byteInts (sceneT s))) := Lib.hid (by unfold digS; rw [hok]; rfl)
  have HFS : Hid (∀ wx, Below w.heap.size w wx → Calls Tryz.prog 16 #[vScene s TA tc P pc Q qc] wx fun e w' => e = .returned (str (sceneT s)) ∧ Below wx.heap.size wx w') := Lib.hid (fun wx hbx => S_FormatScene wx (h.step hbx))
  have HL := Lib.hid (sceneT_len s)
  have HPZ : Hid (Own (w.alloc (.cells #[.int .i64 s.a, .int .i64 s.b, .int .i64 s.c, .int .i64 s.d, .bool s.e, .int .i64 s.f, .int .i64 s.g, .int .i64 s.log, .slice TA s.tex.length tc, .slice P s.ps.length pc, .slice Q s.ss.length qc, .int .i64 s.side] 38)) w.heap.size 38 [.int .i64 s.a, .int .i64 s.b, .int .i64 s.c, .int .i64 s.d, .bool s.e, .int .i64 s.f, .int .i64 s.g, .int .i64 s.log, .slice TA s.tex.length tc, .slice P s.ps.length pc, .slice Q s.ss.length qc, .int .i64 s.side]) := Lib.hid (Own.new w _ #[_, _, _, _, _, _, _, _, _, _, _, _])
  obtain ⟨X, hX⟩ : ∃ X, sceneT s = X := ⟨_, rfl⟩
  rw [hX] at HF HFS HL
  have hXl : X.length ≤ 660011 := HL.out
  clear h hX
  go_enter Tryz.func6, Tryz.ntmps6
  go_upto_region 3 with (first | (go_at_call 15; (with_reducible refine (HVS.out true hok _ (by repeat (first | (with_reducible exact Below.refl _ _) | (with_reducible assumption) | ((with_reducible refine Below.alloc ?_ ?_ _); rotate_left; (first | omega | (simp <;> omega))) | ((with_reducible refine Below.setCell ?_ ?_ _); rotate_left; (first | omega | (simp <;> omega))) | (with_reducible refine below_drewN ?_ _) | (with_reducible refine Below.drew ?_) | ((with_reducible refine Below.step (by assumption) ?_ ?_); rotate_left; (first | omega | (simp <;> omega)))))).mono ?_); rintro e w1 ⟨rfl, hb1⟩; have hz1 := hb1.size; (try simp at hz1); have HB1 : Hid (Below w.heap.size w w1) := Lib.hid (Below.step hb1 (by repeat (first | (with_reducible exact Below.refl _ _) | (with_reducible assumption) | ((with_reducible refine Below.alloc ?_ ?_ _); rotate_left; (first | omega | (simp <;> omega))) | ((with_reducible refine Below.setCell ?_ ?_ _); rotate_left; (first | omega | (simp <;> omega))) | (with_reducible refine below_drewN ?_ _) | (with_reducible refine Below.drew ?_) | ((with_reducible refine Below.step (by assumption) ?_ ?_); rotate_left; (first | omega | (simp <;> omega))))) (by first | omega | (simp <;> omega))); have HP1 : Hid (Own w1 w.heap.size 38 [.int .i64 s.a, .int .i64 s.b, .int .i64 s.c, .int .i64 s.d, .bool s.e, .int .i64 s.f, .int .i64 s.g, .int .i64 s.log, .slice TA s.tex.length tc, .slice P s.ps.length pc, .slice Q s.ss.length qc, .int .i64 s.side]) := Lib.hid (Own.step hb1 HPZ.out); clear hb1) | fail)
  have t0 : w1.cell? ⟨w.heap.size, 0, none⟩ = some (.int .i64 s.a) := HP1.out.cell 0
  have t1 : w1.cell? ⟨w.heap.size, 1, none⟩ = some (.int .i64 s.b) := HP1.out.cell 1
  have t2 : w1.cell? ⟨w.heap.size, 2, none⟩ = some (.int .i64 s.c) := HP1.out.cell 2
  have t3 : w1.cell? ⟨w.heap.size, 3, none⟩ = some (.int .i64 s.d) := HP1.out.cell 3
  have t4 : w1.cell? ⟨w.heap.size, 4, none⟩ = some (.bool s.e) := HP1.out.cell 4
  have t5 : w1.cell? ⟨w.heap.size, 5, none⟩ = some (.int .i64 s.f) := HP1.out.cell 5
  have t6 : w1.cell? ⟨w.heap.size, 6, none⟩ = some (.int .i64 s.g) := HP1.out.cell 6
  have t7 : w1.cell? ⟨w.heap.size, 7, none⟩ = some (.int .i64 s.log) := HP1.out.cell 7
  have t8 : w1.cell? ⟨w.heap.size, 8, none⟩ = some (.slice TA s.tex.length tc) := HP1.out.cell 8
  have t9 : w1.cell? ⟨w.heap.size, 9, none⟩ = some (.slice P s.ps.length pc) := HP1.out.cell 9
  have t10 : w1.cell? ⟨w.heap.size, 10, none⟩ = some (.slice Q s.ss.length qc) := HP1.out.cell 10
  have t11 : w1.cell? ⟨w.heap.size, 11, none⟩ = some (.int .i64 s.side) := HP1.out.cell 11
  have lt1 : w.heap.size < w1.heap.size := HP1.out.lt
  have n1 : ¬ w.heap.size = w1.heap.size := by omega
  clear HVS HPZ
  have HG0 : Hid (Grow (w1.alloc (.cells #[] 3)) (w.heap.size + 1) 3 1 (some ⟨w1.heap.size, 0, none⟩) 0 0 (ints (byteInts (X.take 0)))) := Lib.hid (Grow.lit w1 #[] 0 rfl (by omega) (Nat.zero_le _))
  go_wp2_with (first | (go_at_call 16; (with_reducible refine (HFS.out _ (by repeat (first | (with_reducible exact Below.refl _ _) | (with_reducible exact HB1.out) | (with_reducible assumption) | ((with_reducible refine Below.alloc ?_ ?_ _); rotate_left; (first | omega | (simp <;> omega))) | ((with_reducible refine Below.setCell ?_ ?_ _); rotate_left; (first | omega | (simp <;> omega))) | (with_reducible refine below_drewN ?_ _) | (with_reducible refine Below.drew ?_) | ((with_reducible refine Below.step (by assumption) ?_ ?_); rotate_left; (first | omega | (simp <;> omega)))))).mono ?_); rintro e wF ⟨rfl, hb2⟩; have hz2 := hb2.size; (try simp at hz2); have HB2 : Hid (Below w.heap.size w wF) := Lib.hid (Below.step hb2 (by repeat (first | (with_reducible exact Below.refl _ _) | (with_reducible exact HB1.out) | (with_reducible assumption) | ((with_reducible refine Below.alloc ?_ ?_ _); rotate_left; (first | omega | (simp <;> omega))) | ((with_reducible refine Below.setCell ?_ ?_ _); rotate_left; (first | omega | (simp <;> omega))) | (with_reducible refine below_drewN ?_ _) | (with_reducible refine Below.drew ?_) | ((with_reducible refine Below.step (by assumption) ?_ ?_); rotate_left; (first | omega | (simp <;> omega))))) (by first | omega | (simp <;> omega))); have HG2 : Hid (Grow wF (w.heap.size + 1) 3 1 (some ⟨w1.heap.size, 0, none⟩) 0 0 (ints (byteInts (X.take 0)))) := Lib.hid (Grow.step hb2 HG0.out); clear hb2; obtain ⟨cap, w3, pad, hcv, ho, hb3, hz3, hcap⟩ := bytes_of (P := Tryz.prog) 9 48 5 X Tryz.underlying9 Tryz.underlying48 Tryz.underlying5 wF; have HO := Lib.hid ho; have HB3 : Hid (Below w.heap.size w w3) := Lib.hid (Below.step hb3 HB2.out HB2.out.size); have HG3 : Hid (Grow w3 (w.heap.size + 1) 3 1 (some ⟨w1.heap.size, 0, none⟩) 0 0 (ints (byteInts (X.take 0)))) := Lib.hid (Grow.step hb3 HG2.out); clear ho hb3) | fail)
  clear hcv
  have hgw : ∀ x, x ∈ gOf (some (⟨w1.heap.size, 0, none⟩ : Addr)) → ¬ wF.heap.size = x := by intro x hx e; simp [gOf] at hx; omega
  go_loopw [3, 5, 14] (fun o _ i wr => ∃ (k : Nat) (B : Option Addr) (d : Nat), k ≤ X.length ∧ i = .int .i64 k ∧ o = .slice B k d ∧ Grow wr (w.heap.size + 1) 3 1 B k d (ints (byteInts (X.take k))) ∧ OwnB wr wF.heap.size 5 (u8s X ++ pad) ∧ wF.heap.size ∉ gOf B ∧ Below w.heap.size w wr) (fun _ _ i _ => X.length - (RowKit.intOf i).toNat)
  case atStart => exact ⟨0, _, _, Nat.zero_le _, rfl, rfl, HG3.out, HO.out, fun hx => hgw _ hx rfl, HB3.out⟩
  case round =>
    obtain ⟨k, B, d, hk, rfl, rfl, hg, ho, hnb, hb⟩ := hrel
    obtain ⟨wo, rfl⟩ : ∃ wo, wo = wr := ⟨_, rfl⟩
    have hz := hb.size
    have hol := ho.lt
    have HG := Lib.hid hg
    have HC := Lib.hid ho
    have HB := Lib.hid hb
    have HNB := Lib.hid hnb
    clear hg ho hb hnb HO HG3 HG2 HG0 HB3 HB2 HB1 HP1
    by_cases hlt : k < X.length
    · have c1 : wo.cell? ⟨wF.heap.size, k, none⟩ = some (.int .u8 (X[k].toNat : Int)) := by rw [HC.out.cell, List.getElem?_append_left (by simpa using hlt)]; simp [hlt]
      have HS := Lib.hid (byteInts_take hlt)
      have hxb : X[k].toNat < 256 := X[k].toNat_lt
      generalize X[k].toNat = xn at *
      have hxn : IntKind.i64.wrap (xn : Int) = xn := IntWalk.i64_in _ (by omega)
      have i1 : (k : Int) < X.length := by omega
      have i2 : (0 : Int) ≤ k := by omega
      go_wp2_with (first | (at_builtin; refine wpList_app (by rfl) _ _ 24 (by rfl) (w.heap.size + 1) 3 (.int .i64 0) 1 8 Tryz.underlying24 T.infoInt rfl (by decide) (xs := ints (byteInts (X.take k))) (by rfl) ?_ (ys := [.int .i64 (xn : Int)]) (by rfl) ?_ (one_int _) ?_ ?_ ?_ ?_; (exact (by repeat (first | (with_reducible exact HG.out) | (with_reducible refine Grow.alloc ?_ _) | (with_reducible refine Grow.drewN ?_ _) | (with_reducible refine Grow.drew ?_) | ((with_reducible refine Grow.far ?_ ?_ _); rotate_left; (first | omega | (simp <;> omega))) | (with_reducible refine Grow.step (by assumption) ?_)))); (exact (Grow.rs (base := 0) (n := 1) (c := 1) (by repeat (first | (with_reducible refine Grow.drewN ?_ _) | (with_reducible refine Grow.drew ?_) | (refine Grow.lit_at (by simp) (by rfl) (Nat.zero_le _) (by unfold maxLen; omega)))))); (unfold maxLen; omega); (omega); (first | omega | (simp <;> omega)); rintro A' c' w2 gA; have g1 := gA.1; have g2 := gA.2.1; have g5 := gA.2.2.2.2; have hfar := gA.2.2.1.block wF.heap.size (by first | omega | (simp <;> omega)) (by have := HNB.out; cases B <;> simp_all [gOf]); rw [← HS.out] at g1; have HG1 := Lib.hid g1; have HC2 : Hid (OwnB w2 wF.heap.size 5 (u8s X ++ pad)) := Lib.hid (by obtain ⟨m, hm, h⟩ := OwnB.step ((Below.refl _ _).alloc (Nat.le_refl _) _) HC.out; exact ⟨m, hm, hfar.trans h⟩); have HNB2 : Hid (wF.heap.size ∉ gOf A') := Lib.hid (by rcases g5 with h | h <;> rw [h]; exact HNB.out; simp; omega); have HB4 : Hid (Below w.heap.size w w2) := Lib.hid (Below.trans (Below.alloc HB.out (by omega) _) (g2.mono (by omega))); clear gA g1 g2 g5 hfar) | fail)
      go_roundw
      case rel => exact ⟨k + 1, _, _, by omega, by go_num, rfl, HG1.out, HC2.out, HNB2.out, HB4.out⟩
      case measure => simp [RowKit.intOf] <;> omega
    · obtain rfl : k = X.length := by omega
      have HRS : Hid (RS wo 1 B X.length d (ints (byteInts X))) := Lib.hid (by have := HG.out.rs; rw [List.take_of_length_le (Nat.le_refl _)] at this; exact this)
      have HH : Hid (∀ wx, wx = wo → Calls Tryz.prog 17 #[.slice B X.length d] wx fun e w' => e = .returned (.int .i64 (hashF (byteInts X))) ∧ wx = w') := Lib.hid (fun wx hx => by subst hx; exact S_HashInts _ (byteInts_len X) HRS.out)
      go_wp2_with (first | (go_at_call 17; (with_reducible refine (HH.out _ rfl).mono ?_); rintro e w' ⟨rfl, rfl⟩) | fail)
      go_ret
      exact ⟨by rw [HF.out]; rfl, HB.out⟩
set_option maxHeartbeats 16000000 in
theorem S_FormatHeader {s : EScene} {TA P Q : Option Addr} {tc pc qc : Nat} (n : Int) (w : World) (h : SceneIn w s TA tc P pc Q qc) :
    Calls Tryz.prog 10 #[vScene s TA tc P pc Q qc, .int .i64 n] w fun e w' => e = .returned (str (headT s n)) ∧ Below w.heap.size w w' := by
  have HVS : Hid (∀ b, sceneOk s = b → ∀ wx, Below w.heap.size w wx → Calls Tryz.prog 15 #[vScene s TA tc P pc Q qc] wx fun e w' => e = .returned (.bool b) ∧ Below wx.heap.size wx w') := Lib.hid (fun b hb wx hbx => by subst hb; exact S_IsValidScene wx (h.step hbx))
  have HIN : Hid (∀ b, inB n 1 12 = b → ∀ wx, Calls Tryz.prog 29 #[.int .i64 n, .int .i64 1, .int .i64 12] wx fun e w' => e = .returned (.bool b) ∧ wx = w') := Lib.hid (fun b hb wx => S_in_is hb wx)
  cases hok : sceneOk s with
  | false =>
    have HF : Hid (headT s n = []) := Lib.hid (by unfold headT; rw [hok]; rfl)
    clear h
    go_enter Tryz.func10, Tryz.ntmps10
    go_wp2_with (first | (go_at_call 15; (with_reducible refine (HVS.out false hok _ (by repeat (first | (with_reducible exact Below.refl _ _) | (with_reducible assumption) | ((with_reducible refine Below.alloc ?_ ?_ _); rotate_left; (first | omega | (simp <;> omega))) | ((with_reducible refine Below.setCell ?_ ?_ _); rotate_left; (first | omega | (simp <;> omega))) | (with_reducible refine below_drewN ?_ _) | (with_reducible refine Below.drew ?_) | ((with_reducible refine Below.step (by assumption) ?_ ?_); rotate_left; (first | omega | (simp <;> omega)))))).mono ?_); rintro e w1 ⟨rfl, hb1⟩; have HB1 : Hid (Below w.heap.size w w1) := Lib.hid (Below.step hb1 (by repeat (first | (with_reducible exact Below.refl _ _) | (with_reducible assumption) | ((with_reducible refine Below.alloc ?_ ?_ _); rotate_left; (first | omega | (simp <;> omega))) | ((with_reducible refine Below.setCell ?_ ?_ _); rotate_left; (first | omega | (simp <;> omega))) | (with_reducible refine below_drewN ?_ _) | (with_reducible refine Below.drew ?_) | ((with_reducible refine Below.step (by assumption) ?_ ?_); rotate_left; (first | omega | (simp <;> omega))))) (by first | omega | (simp <;> omega))); clear hb1) | fail)
    go_ret
    exact ⟨by rw [HF.out]; rfl, HB1.out⟩
  | true =>
  cases hin : inB n 1 12 with
  | false =>
    have HF : Hid (headT s n = []) := Lib.hid (by unfold headT; rw [hin]; simp)
    clear h
    go_enter Tryz.func10, Tryz.ntmps10
    go_wp2_with (first | (go_at_call 15; (with_reducible refine (HVS.out true hok _ (by repeat (first | (with_reducible exact Below.refl _ _) | (with_reducible assumption) | ((with_reducible refine Below.alloc ?_ ?_ _); rotate_left; (first | omega | (simp <;> omega))) | ((with_reducible refine Below.setCell ?_ ?_ _); rotate_left; (first | omega | (simp <;> omega))) | (with_reducible refine below_drewN ?_ _) | (with_reducible refine Below.drew ?_) | ((with_reducible refine Below.step (by assumption) ?_ ?_); rotate_left; (first | omega | (simp <;> omega)))))).mono ?_); rintro e w1 ⟨rfl, hb1⟩; have HB1 : Hid (Below w.heap.size w w1) := Lib.hid (Below.step hb1 (by repeat (first | (with_reducible exact Below.refl _ _) | (with_reducible assumption) | ((with_reducible refine Below.alloc ?_ ?_ _); rotate_left; (first | omega | (simp <;> omega))) | ((with_reducible refine Below.setCell ?_ ?_ _); rotate_left; (first | omega | (simp <;> omega))) | (with_reducible refine below_drewN ?_ _) | (with_reducible refine Below.drew ?_) | ((with_reducible refine Below.step (by assumption) ?_ ?_); rotate_left; (first | omega | (simp <;> omega))))) (by first | omega | (simp <;> omega))); clear hb1) | (go_at_call 29; (with_reducible refine (HIN.out false hin _).mono ?_); rintro e w' ⟨rfl, rfl⟩) | fail)
    go_ret
    exact ⟨by rw [HF.out]; rfl, HB1.out⟩
  | true =>
  have HF : Hid (headT s n = [102, 105, 108, 109, 32] ++ fmtI (digS s) ++ [32] ++ fmtI n ++ [10]) := Lib.hid (by unfold headT; rw [hok, hin]; rfl)
  have HDG : Hid (∀ wx, Below w.heap.size w wx → Calls Tryz.prog 6 #[vScene s TA tc P pc Q qc] wx fun e w' => e = .returned (.int .i64 (digS s)) ∧ Below wx.heap.size wx w') := Lib.hid (fun wx hbx => S_SceneDigest wx (h.step hbx))
  have HN1 : Hid (∀ wx, Below w.heap.size w wx → Calls Tryz.prog 30 #[.int .i64 (digS s)] wx fun e w' => e = .returned (str (fmtI (digS s))) ∧ Below wx.heap.size wx w') := Lib.hid (fun wx hbx => S_FormatInt (digS s) wx)
  have HN2 : Hid (∀ wx, Below w.heap.size w wx → Calls Tryz.prog 30 #[.int .i64 n] wx fun e w' => e = .returned (str (fmtI n)) ∧ Below wx.heap.size wx w') := Lib.hid (fun wx hbx => S_FormatInt n wx)
  have HL1 := Lib.hid (fmtI_len (digS s))
  have HL2 := Lib.hid (fmtI_len n)
  have HPZ : Hid (Own (w.alloc (.cells #[.int .i64 s.a, .int .i64 s.b, .int .i64 s.c, .int .i64 s.d, .bool s.e, .int .i64 s.f, .int .i64 s.g, .int .i64 s.log, .slice TA s.tex.length tc, .slice P s.ps.length pc, .slice Q s.ss.length qc, .int .i64 s.side] 38)) w.heap.size 38 [.int .i64 s.a, .int .i64 s.b, .int .i64 s.c, .int .i64 s.d, .bool s.e, .int .i64 s.f, .int .i64 s.g, .int .i64 s.log, .slice TA s.tex.length tc, .slice P s.ps.length pc, .slice Q s.ss.length qc, .int .i64 s.side]) := Lib.hid (Own.new w _ #[_, _, _, _, _, _, _, _, _, _, _, _])
  obtain ⟨X, hX⟩ : ∃ X, fmtI (digS s) = X := ⟨_, rfl⟩
  obtain ⟨Y, hY⟩ : ∃ Y, fmtI n = Y := ⟨_, rfl⟩
  rw [hX] at HF HN1 HL1
  rw [hY] at HF HN2 HL2
  generalize digS s = dg at *
  have s1 : ¬ 9223372036854775807 < 5 + X.length := by have := HL1.out; omega
  have s2 : ¬ 9223372036854775807 < 5 + X.length + 1 := by have := HL1.out; omega
  have s3 : ¬ 9223372036854775807 < 5 + X.length + 1 + Y.length := by have := HL1.out; have := HL2.out; omega
  have s4 : ¬ 9223372036854775807 < 5 + X.length + 1 + Y.length + 1 := by have := HL1.out; have := HL2.out; omega
  clear h hX hY
  go_enter Tryz.func10, Tryz.ntmps10
  go_upto_region 3 with (first | (go_at_call 15; (with_reducible refine (HVS.out true hok _ (by repeat (first | (with_reducible exact Below.refl _ _) | (with_reducible assumption) | ((with_reducible refine Below.alloc ?_ ?_ _); rotate_left; (first | omega | (simp <;> omega))) | ((with_reducible refine Below.setCell ?_ ?_ _); rotate_left; (first | omega | (simp <;> omega))) | (with_reducible refine below_drewN ?_ _) | (with_reducible refine Below.drew ?_) | ((with_reducible refine Below.step (by assumption) ?_ ?_); rotate_left; (first | omega | (simp <;> omega)))))).mono ?_); rintro e w1 ⟨rfl, hb1⟩; have hz1 := hb1.size; (try simp at hz1); have HB1 : Hid (Below w.heap.size w w1) := Lib.hid (Below.step hb1 (by repeat (first | (with_reducible exact Below.refl _ _) | (with_reducible assumption) | ((with_reducible refine Below.alloc ?_ ?_ _); rotate_left; (first | omega | (simp <;> omega))) | ((with_reducible refine Below.setCell ?_ ?_ _); rotate_left; (first | omega | (simp <;> omega))) | (with_reducible refine below_drewN ?_ _) | (with_reducible refine Below.drew ?_) | ((with_reducible refine Below.step (by assumption) ?_ ?_); rotate_left; (first | omega | (simp <;> omega))))) (by first | omega | (simp <;> omega))); have HP1 : Hid (Own w1 w.heap.size 38 [.int .i64 s.a, .int .i64 s.b, .int .i64 s.c, .int .i64 s.d, .bool s.e, .int .i64 s.f, .int .i64 s.g, .int .i64 s.log, .slice TA s.tex.length tc, .slice P s.ps.length pc, .slice Q s.ss.length qc, .int .i64 s.side]) := Lib.hid (Own.step hb1 HPZ.out); clear hb1) | (go_at_call 29; (with_reducible refine (HIN.out true hin _).mono ?_); rintro e w' ⟨rfl, rfl⟩) | fail)
  have t0 : w1.cell? ⟨w.heap.size, 0, none⟩ = some (.int .i64 s.a) := HP1.out.cell 0
  have t1 : w1.cell? ⟨w.heap.size, 1, none⟩ = some (.int .i64 s.b) := HP1.out.cell 1
  have t2 : w1.cell? ⟨w.heap.size, 2, none⟩ = some (.int .i64 s.c) := HP1.out.cell 2
  have t3 : w1.cell? ⟨w.heap.size, 3, none⟩ = some (.int .i64 s.d) := HP1.out.cell 3
  have t4 : w1.cell? ⟨w.heap.size, 4, none⟩ = some (.bool s.e) := HP1.out.cell 4
  have t5 : w1.cell? ⟨w.heap.size, 5, none⟩ = some (.int .i64 s.f) := HP1.out.cell 5
  have t6 : w1.cell? ⟨w.heap.size, 6, none⟩ = some (.int .i64 s.g) := HP1.out.cell 6
  have t7 : w1.cell? ⟨w.heap.size, 7, none⟩ = some (.int .i64 s.log) := HP1.out.cell 7
  have t8 : w1.cell? ⟨w.heap.size, 8, none⟩ = some (.slice TA s.tex.length tc) := HP1.out.cell 8
  have t9 : w1.cell? ⟨w.heap.size, 9, none⟩ = some (.slice P s.ps.length pc) := HP1.out.cell 9
  have t10 : w1.cell? ⟨w.heap.size, 10, none⟩ = some (.slice Q s.ss.length qc) := HP1.out.cell 10
  have t11 : w1.cell? ⟨w.heap.size, 11, none⟩ = some (.int .i64 s.side) := HP1.out.cell 11
  clear HVS HPZ
  go_wp2_with (first | (go_at_call 6; (with_reducible refine (HDG.out _ HB1.out).mono ?_); rintro e wF ⟨rfl, hb2⟩; have HB2 : Hid (Below w.heap.size w wF) := Lib.hid (Below.step hb2 HB1.out HB1.out.size); clear hb2) | (go_at_call 30; (with_reducible refine (HN1.out _ HB2.out).mono ?_); rintro e w3 ⟨rfl, hb3⟩; have HB3 : Hid (Below w.heap.size w w3) := Lib.hid (Below.step hb3 HB2.out HB2.out.size); clear hb3) | (go_at_call 30; (with_reducible refine (HN2.out _ HB3.out).mono ?_); rintro e w4 ⟨rfl, hb4⟩; have HB4 : Hid (Below w.heap.size w w4) := Lib.hid (Below.step hb4 HB3.out HB3.out.size); clear hb4) | fail)
  go_ret
  refine ⟨?_, HB4.out⟩
  rw [HF.out]
  show Ending.returned (Value.string ((((({ data := [102, 105, 108, 109, 32].toArray } : ByteArray) ++ { data := X.toArray }) ++ { data := [32].toArray }) ++ { data := Y.toArray }) ++ { data := [10].toArray })) = _
  rw [str_cat, str_cat, str_cat, str_cat]
set_option maxHeartbeats 16000000 in
theorem I_SceneDigest {s : EScene} {TA P Q : Option Addr} {tc pc qc : Nat} (w : World) (h : SceneIn w s TA tc P pc Q qc) (hta : Tab w) (hml : MLen w) :
    Calls Tryz.prog 8 #[vScene s TA tc P pc Q qc] w fun e w' => e = .returned (.int .i64 (digS s)) ∧ Below w.heap.size w w' := by
  have HVS : Hid (∀ b, sceneOk s = b → ∀ wx, Below w.heap.size w wx → Calls Tryz.prog 22 #[vScene s TA tc P pc Q qc] wx fun e w' => e = .returned (.bool b) ∧ Below wx.heap.size wx w') := Lib.hid (fun b hb wx hbx => by subst hb; exact I_IsValidScene wx (h.step hbx))
  cases hok : sceneOk s with
  | false =>
    have HF : Hid (digS s = -1) := Lib.hid (by unfold digS; rw [hok]; rfl)
    clear h hta hml
    go_enter Tryz.func8, Tryz.ntmps8
    go_wp2_with (first | (go_at_call 22; (with_reducible refine (HVS.out false hok _ (by repeat (first | (with_reducible exact Below.refl _ _) | (with_reducible assumption) | ((with_reducible refine Below.alloc ?_ ?_ _); rotate_left; (first | omega | (simp <;> omega))) | ((with_reducible refine Below.setCell ?_ ?_ _); rotate_left; (first | omega | (simp <;> omega))) | (with_reducible refine below_drewN ?_ _) | (with_reducible refine Below.drew ?_) | ((with_reducible refine Below.step (by assumption) ?_ ?_); rotate_left; (first | omega | (simp <;> omega)))))).mono ?_); rintro e w1 ⟨rfl, hb1⟩; have HB1 : Hid (Below w.heap.size w w1) := Lib.hid (Below.step hb1 (by repeat (first | (with_reducible exact Below.refl _ _) | (with_reducible assumption) | ((with_reducible refine Below.alloc ?_ ?_ _); rotate_left; (first | omega | (simp <;> omega))) | ((with_reducible refine Below.setCell ?_ ?_ _); rotate_left; (first | omega | (simp <;> omega))) | (with_reducible refine below_drewN ?_ _) | (with_reducible refine Below.drew ?_) | ((with_reducible refine Below.step (by assumption) ?_ ?_); rotate_left; (first | omega | (simp <;> omega))))) (by first | omega | (simp <;> omega))); clear hb1) | fail)
    go_ret
    exact ⟨by rw [HF.out]; rfl, HB1.out⟩
  | true =>
  have HF : Hid (digS s = hashF (byteInts (sceneT s))) := Lib.hid (by unfold digS; rw [hok]; rfl)
  have HFS : Hid (∀ wx, Below w.heap.size w wx → Calls Tryz.prog 23 #[vScene s TA tc P pc Q qc] wx fun e w' => e = .returned (str (sceneT s)) ∧ Below wx.heap.size wx w') := Lib.hid (fun wx hbx => I_FormatScene wx (h.step hbx) (hta.step hbx) (hml.step hbx))
  have HL := Lib.hid (sceneT_len s)
  have HPZ : Hid (Own (w.alloc (.cells #[.int .i64 s.a, .int .i64 s.b, .int .i64 s.c, .int .i64 s.d, .bool s.e, .int .i64 s.f, .int .i64 s.g, .int .i64 s.log, .slice TA s.tex.length tc, .slice P s.ps.length pc, .slice Q s.ss.length qc, .int .i64 s.side] 38)) w.heap.size 38 [.int .i64 s.a, .int .i64 s.b, .int .i64 s.c, .int .i64 s.d, .bool s.e, .int .i64 s.f, .int .i64 s.g, .int .i64 s.log, .slice TA s.tex.length tc, .slice P s.ps.length pc, .slice Q s.ss.length qc, .int .i64 s.side]) := Lib.hid (Own.new w _ #[_, _, _, _, _, _, _, _, _, _, _, _])
  obtain ⟨X, hX⟩ : ∃ X, sceneT s = X := ⟨_, rfl⟩
  rw [hX] at HF HFS HL
  have hXl : X.length ≤ 660011 := HL.out
  clear h hX hta hml
  go_enter Tryz.func8, Tryz.ntmps8
  go_upto_region 3 with (first | (go_at_call 22; (with_reducible refine (HVS.out true hok _ (by repeat (first | (with_reducible exact Below.refl _ _) | (with_reducible assumption) | ((with_reducible refine Below.alloc ?_ ?_ _); rotate_left; (first | omega | (simp <;> omega))) | ((with_reducible refine Below.setCell ?_ ?_ _); rotate_left; (first | omega | (simp <;> omega))) | (with_reducible refine below_drewN ?_ _) | (with_reducible refine Below.drew ?_) | ((with_reducible refine Below.step (by assumption) ?_ ?_); rotate_left; (first | omega | (simp <;> omega)))))).mono ?_); rintro e w1 ⟨rfl, hb1⟩; have hz1 := hb1.size; (try simp at hz1); have HB1 : Hid (Below w.heap.size w w1) := Lib.hid (Below.step hb1 (by repeat (first | (with_reducible exact Below.refl _ _) | (with_reducible assumption) | ((with_reducible refine Below.alloc ?_ ?_ _); rotate_left; (first | omega | (simp <;> omega))) | ((with_reducible refine Below.setCell ?_ ?_ _); rotate_left; (first | omega | (simp <;> omega))) | (with_reducible refine below_drewN ?_ _) | (with_reducible refine Below.drew ?_) | ((with_reducible refine Below.step (by assumption) ?_ ?_); rotate_left; (first | omega | (simp <;> omega))))) (by first | omega | (simp <;> omega))); have HP1 : Hid (Own w1 w.heap.size 38 [.int .i64 s.a, .int .i64 s.b, .int .i64 s.c, .int .i64 s.d, .bool s.e, .int .i64 s.f, .int .i64 s.g, .int .i64 s.log, .slice TA s.tex.length tc, .slice P s.ps.length pc, .slice Q s.ss.length qc, .int .i64 s.side]) := Lib.hid (Own.step hb1 HPZ.out); clear hb1) | fail)
  have t0 : w1.cell? ⟨w.heap.size, 0, none⟩ = some (.int .i64 s.a) := HP1.out.cell 0
  have t1 : w1.cell? ⟨w.heap.size, 1, none⟩ = some (.int .i64 s.b) := HP1.out.cell 1
  have t2 : w1.cell? ⟨w.heap.size, 2, none⟩ = some (.int .i64 s.c) := HP1.out.cell 2
  have t3 : w1.cell? ⟨w.heap.size, 3, none⟩ = some (.int .i64 s.d) := HP1.out.cell 3
  have t4 : w1.cell? ⟨w.heap.size, 4, none⟩ = some (.bool s.e) := HP1.out.cell 4
  have t5 : w1.cell? ⟨w.heap.size, 5, none⟩ = some (.int .i64 s.f) := HP1.out.cell 5
  have t6 : w1.cell? ⟨w.heap.size, 6, none⟩ = some (.int .i64 s.g) := HP1.out.cell 6
  have t7 : w1.cell? ⟨w.heap.size, 7, none⟩ = some (.int .i64 s.log) := HP1.out.cell 7
  have t8 : w1.cell? ⟨w.heap.size, 8, none⟩ = some (.slice TA s.tex.length tc) := HP1.out.cell 8
  have t9 : w1.cell? ⟨w.heap.size, 9, none⟩ = some (.slice P s.ps.length pc) := HP1.out.cell 9
  have t10 : w1.cell? ⟨w.heap.size, 10, none⟩ = some (.slice Q s.ss.length qc) := HP1.out.cell 10
  have t11 : w1.cell? ⟨w.heap.size, 11, none⟩ = some (.int .i64 s.side) := HP1.out.cell 11
  have lt1 : w.heap.size < w1.heap.size := HP1.out.lt
  have n1 : ¬ w.heap.size = w1.heap.size := by omega
  clear HVS HPZ
  have HG0 : Hid (Grow (w1.alloc (.cells #[] 3)) (w.heap.size + 1) 3 1 (some ⟨w1.heap.size, 0, none⟩) 0 0 (ints (byteInts (X.take 0)))) := Lib.hid (Grow.lit w1 #[] 0 rfl (by omega) (Nat.zero_le _))
  go_wp2_with (first | (go_at_call 23; (with_reducible refine (HFS.out _ (by repeat (first | (with_reducible exact Below.refl _ _) | (with_reducible exact HB1.out) | (with_reducible assumption) | ((with_reducible refine Below.alloc ?_ ?_ _); rotate_left; (first | omega | (simp <;> omega))) | ((with_reducible refine Below.setCell ?_ ?_ _); rotate_left; (first | omega | (simp <;> omega))) | (with_reducible refine below_drewN ?_ _) | (with_reducible refine Below.drew ?_) | ((with_reducible refine Below.step (by assumption) ?_ ?_); rotate_left; (first | omega | (simp <;> omega)))))).mono ?_); rintro e wF ⟨rfl, hb2⟩; have hz2 := hb2.size; (try simp at hz2); have HB2 : Hid (Below w.heap.size w wF) := Lib.hid (Below.step hb2 (by repeat (first | (with_reducible exact Below.refl _ _) | (with_reducible exact HB1.out) | (with_reducible assumption) | ((with_reducible refine Below.alloc ?_ ?_ _); rotate_left; (first | omega | (simp <;> omega))) | ((with_reducible refine Below.setCell ?_ ?_ _); rotate_left; (first | omega | (simp <;> omega))) | (with_reducible refine below_drewN ?_ _) | (with_reducible refine Below.drew ?_) | ((with_reducible refine Below.step (by assumption) ?_ ?_); rotate_left; (first | omega | (simp <;> omega))))) (by first | omega | (simp <;> omega))); have HG2 : Hid (Grow wF (w.heap.size + 1) 3 1 (some ⟨w1.heap.size, 0, none⟩) 0 0 (ints (byteInts (X.take 0)))) := Lib.hid (Grow.step hb2 HG0.out); clear hb2; obtain ⟨cap, w3, pad, hcv, ho, hb3, hz3, hcap⟩ := bytes_of (P := Tryz.prog) 9 48 5 X Tryz.underlying9 Tryz.underlying48 Tryz.underlying5 wF; have HO := Lib.hid ho; have HB3 : Hid (Below w.heap.size w w3) := Lib.hid (Below.step hb3 HB2.out HB2.out.size); have HG3 : Hid (Grow w3 (w.heap.size + 1) 3 1 (some ⟨w1.heap.size, 0, none⟩) 0 0 (ints (byteInts (X.take 0)))) := Lib.hid (Grow.step hb3 HG2.out); clear ho hb3) | fail)
  clear hcv
  have hgw : ∀ x, x ∈ gOf (some (⟨w1.heap.size, 0, none⟩ : Addr)) → ¬ wF.heap.size = x := by intro x hx e; simp [gOf] at hx; omega
  go_loopw [3, 5, 14] (fun o _ i wr => ∃ (k : Nat) (B : Option Addr) (d : Nat), k ≤ X.length ∧ i = .int .i64 k ∧ o = .slice B k d ∧ Grow wr (w.heap.size + 1) 3 1 B k d (ints (byteInts (X.take k))) ∧ OwnB wr wF.heap.size 5 (u8s X ++ pad) ∧ wF.heap.size ∉ gOf B ∧ Below w.heap.size w wr) (fun _ _ i _ => X.length - (RowKit.intOf i).toNat)
  case atStart => exact ⟨0, _, _, Nat.zero_le _, rfl, rfl, HG3.out, HO.out, fun hx => hgw _ hx rfl, HB3.out⟩
  case round =>
    obtain ⟨k, B, d, hk, rfl, rfl, hg, ho, hnb, hb⟩ := hrel
    obtain ⟨wo, rfl⟩ : ∃ wo, wo = wr := ⟨_, rfl⟩
    have hz := hb.size
    have hol := ho.lt
    have HG := Lib.hid hg
    have HC := Lib.hid ho
    have HB := Lib.hid hb
    have HNB := Lib.hid hnb
    clear hg ho hb hnb HO HG3 HG2 HG0 HB3 HB2 HB1 HP1
    by_cases hlt : k < X.length
    · have c1 : wo.cell? ⟨wF.heap.size, k, none⟩ = some (.int .u8 (X[k].toNat : Int)) := by rw [HC.out.cell, List.getElem?_append_left (by simpa using hlt)]; simp [hlt]
      have HS := Lib.hid (byteInts_take hlt)
      have hxb : X[k].toNat < 256 := X[k].toNat_lt
      generalize X[k].toNat = xn at *
      have hxn : IntKind.i64.wrap (xn : Int) = xn := IntWalk.i64_in _ (by omega)
      have i1 : (k : Int) < X.length := by omega
      have i2 : (0 : Int) ≤ k := by omega
      go_wp2_with (first | (at_builtin; refine wpList_app (by rfl) _ _ 24 (by rfl) (w.heap.size + 1) 3 (.int .i64 0) 1 8 Tryz.underlying24 T.infoInt rfl (by decide) (xs := ints (byteInts (X.take k))) (by rfl) ?_ (ys := [.int .i64 (xn : Int)]) (by rfl) ?_ (one_int _) ?_ ?_ ?_ ?_; (exact (by repeat (first | (with_reducible exact HG.out) | (with_reducible refine Grow.alloc ?_ _) | (with_reducible refine Grow.drewN ?_ _) | (with_reducible refine Grow.drew ?_) | ((with_reducible refine Grow.far ?_ ?_ _); rotate_left; (first | omega | (simp <;> omega))) | (with_reducible refine Grow.step (by assumption) ?_)))); (exact (Grow.rs (base := 0) (n := 1) (c := 1) (by repeat (first | (with_reducible refine Grow.drewN ?_ _) | (with_reducible refine Grow.drew ?_) | (refine Grow.lit_at (by simp) (by rfl) (Nat.zero_le _) (by unfold maxLen; omega)))))); (unfold maxLen; omega); (omega); (first | omega | (simp <;> omega)); rintro A' c' w2 gA; have g1 := gA.1; have g2 := gA.2.1; have g5 := gA.2.2.2.2; have hfar := gA.2.2.1.block wF.heap.size (by first | omega | (simp <;> omega)) (by have := HNB.out; cases B <;> simp_all [gOf]); rw [← HS.out] at g1; have HG1 := Lib.hid g1; have HC2 : Hid (OwnB w2 wF.heap.size 5 (u8s X ++ pad)) := Lib.hid (by obtain ⟨m, hm, h⟩ := OwnB.step ((Below.refl _ _).alloc (Nat.le_refl _) _) HC.out; exact ⟨m, hm, hfar.trans h⟩); have HNB2 : Hid (wF.heap.size ∉ gOf A') := Lib.hid (by rcases g5 with h | h <;> rw [h]; exact HNB.out; simp; omega); have HB4 : Hid (Below w.heap.size w w2) := Lib.hid (Below.trans (Below.alloc HB.out (by omega) _) (g2.mono (by omega))); clear gA g1 g2 g5 hfar) | fail)
      go_roundw
      case rel => exact ⟨k + 1, _, _, by omega, by go_num, rfl, HG1.out, HC2.out, HNB2.out, HB4.out⟩
      case measure => simp [RowKit.intOf] <;> omega
    · obtain rfl : k = X.length := by omega
      have HRS : Hid (RS wo 1 B X.length d (ints (byteInts X))) := Lib.hid (by have := HG.out.rs; rw [List.take_of_length_le (Nat.le_refl _)] at this; exact this)
      have HH : Hid (∀ wx, wx = wo → Calls Tryz.prog 24 #[.slice B X.length d] wx fun e w' => e = .returned (.int .i64 (hashF (byteInts X))) ∧ wx = w') := Lib.hid (fun wx hx => by subst hx; exact I_HashInts _ (byteInts_len X) HRS.out)
      go_wp2_with (first | (go_at_call 24; (with_reducible refine (HH.out _ rfl).mono ?_); rintro e w' ⟨rfl, rfl⟩) | fail)
      go_ret
      exact ⟨by rw [HF.out]; rfl, HB.out⟩
set_option maxHeartbeats 16000000 in
theorem I_FormatHeader {s : EScene} {TA P Q : Option Addr} {tc pc qc : Nat} (n : Int) (w : World) (h : SceneIn w s TA tc P pc Q qc) (hta : Tab w) (hml : MLen w) :
    Calls Tryz.prog 11 #[vScene s TA tc P pc Q qc, .int .i64 n] w fun e w' => e = .returned (str (headT s n)) ∧ Below w.heap.size w w' := by
  have HVS : Hid (∀ b, sceneOk s = b → ∀ wx, Below w.heap.size w wx → Calls Tryz.prog 22 #[vScene s TA tc P pc Q qc] wx fun e w' => e = .returned (.bool b) ∧ Below wx.heap.size wx w') := Lib.hid (fun b hb wx hbx => by subst hb; exact I_IsValidScene wx (h.step hbx))
  have HIN : Hid (∀ b, inB n 1 12 = b → ∀ wx, Calls Tryz.prog 31 #[.int .i64 n, .int .i64 1, .int .i64 12] wx fun e w' => e = .returned (.bool b) ∧ wx = w') := Lib.hid (fun b hb wx => I_within_is hb wx)
  cases hok : sceneOk s with
  | false =>
    have HF : Hid (headT s n = []) := Lib.hid (by unfold headT; rw [hok]; rfl)
    clear h hta hml
    go_enter Tryz.func11, Tryz.ntmps11
    go_wp2_with (first | (go_at_call 22; (with_reducible refine (HVS.out false hok _ (by repeat (first | (with_reducible exact Below.refl _ _) | (with_reducible assumption) | ((with_reducible refine Below.alloc ?_ ?_ _); rotate_left; (first | omega | (simp <;> omega))) | ((with_reducible refine Below.setCell ?_ ?_ _); rotate_left; (first | omega | (simp <;> omega))) | (with_reducible refine below_drewN ?_ _) | (with_reducible refine Below.drew ?_) | ((with_reducible refine Below.step (by assumption) ?_ ?_); rotate_left; (first | omega | (simp <;> omega)))))).mono ?_); rintro e w1 ⟨rfl, hb1⟩; have HB1 : Hid (Below w.heap.size w w1) := Lib.hid (Below.step hb1 (by repeat (first | (with_reducible exact Below.refl _ _) | (with_reducible assumption) | ((with_reducible refine Below.alloc ?_ ?_ _); rotate_left; (first | omega | (simp <;> omega))) | ((with_reducible refine Below.setCell ?_ ?_ _); rotate_left; (first | omega | (simp <;> omega))) | (with_reducible refine below_drewN ?_ _) | (with_reducible refine Below.drew ?_) | ((with_reducible refine Below.step (by assumption) ?_ ?_); rotate_left; (first | omega | (simp <;> omega))))) (by first | omega | (simp <;> omega))); clear hb1) | fail)
    go_ret
    exact ⟨by rw [HF.out]; rfl, HB1.out⟩
  | true =>
  cases hin : inB n 1 12 with
  | false =>
    have HF : Hid (headT s n = []) := Lib.hid (by unfold headT; rw [hin]; simp)
    clear h hta hml
    go_enter Tryz.func11, Tryz.ntmps11
    go_wp2_with (first | (go_at_call 22; (with_reducible refine (HVS.out true hok _ (by repeat (first | (with_reducible exact Below.refl _ _) | (with_reducible assumption) | ((with_reducible refine Below.alloc ?_ ?_ _); rotate_left; (first | omega | (simp <;> omega))) | ((with_reducible refine Below.setCell ?_ ?_ _); rotate_left; (first | omega | (simp <;> omega))) | (with_reducible refine below_drewN ?_ _) | (with_reducible refine Below.drew ?_) | ((with_reducible refine Below.step (by assumption) ?_ ?_); rotate_left; (first | omega | (simp <;> omega)))))).mono ?_); rintro e w1 ⟨rfl, hb1⟩; have HB1 : Hid (Below w.heap.size w w1) := Lib.hid (Below.step hb1 (by repeat (first | (with_reducible exact Below.refl _ _) | (with_reducible assumption) | ((with_reducible refine Below.alloc ?_ ?_ _); rotate_left; (first | omega | (simp <;> omega))) | ((with_reducible refine Below.setCell ?_ ?_ _); rotate_left; (first | omega | (simp <;> omega))) | (with_reducible refine below_drewN ?_ _) | (with_reducible refine Below.drew ?_) | ((with_reducible refine Below.step (by assumption) ?_ ?_); rotate_left; (first | omega | (simp <;> omega))))) (by first | omega | (simp <;> omega))); clear hb1) | (go_at_call 31; (with_reducible refine (HIN.out false hin _).mono ?_); rintro e w' ⟨rfl, rfl⟩) | fail)
    go_ret
    exact ⟨by rw [HF.out]; rfl, HB1.out⟩
  | true =>
  have HF : Hid (headT s n = [102, 105, 108, 109, 32] ++ fmtI (digS s) ++ [32] ++ fmtI n ++ [10]) := Lib.hid (by unfold headT; rw [hok, hin]; rfl)
  have HDG : Hid (∀ wx, Below w.heap.size w wx → Calls Tryz.prog 8 #[vScene s TA tc P pc Q qc] wx fun e w' => e = .returned (.int .i64 (digS s)) ∧ Below wx.heap.size wx w') := Lib.hid (fun wx hbx => I_SceneDigest wx (h.step hbx) (hta.step hbx) (hml.step hbx))
  have HN1 : Hid (∀ wx, Below w.heap.size w wx → Calls Tryz.prog 32 #[.int .i64 (digS s)] wx fun e w' => e = .returned (str (fmtI (digS s))) ∧ Below wx.heap.size wx w') := Lib.hid (fun wx hbx => I_FormatInt (digS s) wx (hta.step hbx))
  have HN2 : Hid (∀ wx, Below w.heap.size w wx → Calls Tryz.prog 32 #[.int .i64 n] wx fun e w' => e = .returned (str (fmtI n)) ∧ Below wx.heap.size wx w') := Lib.hid (fun wx hbx => I_FormatInt n wx (hta.step hbx))
  have HL1 := Lib.hid (fmtI_len (digS s))
  have HL2 := Lib.hid (fmtI_len n)
  have HPZ : Hid (Own (w.alloc (.cells #[.int .i64 s.a, .int .i64 s.b, .int .i64 s.c, .int .i64 s.d, .bool s.e, .int .i64 s.f, .int .i64 s.g, .int .i64 s.log, .slice TA s.tex.length tc, .slice P s.ps.length pc, .slice Q s.ss.length qc, .int .i64 s.side] 38)) w.heap.size 38 [.int .i64 s.a, .int .i64 s.b, .int .i64 s.c, .int .i64 s.d, .bool s.e, .int .i64 s.f, .int .i64 s.g, .int .i64 s.log, .slice TA s.tex.length tc, .slice P s.ps.length pc, .slice Q s.ss.length qc, .int .i64 s.side]) := Lib.hid (Own.new w _ #[_, _, _, _, _, _, _, _, _, _, _, _])
  obtain ⟨X, hX⟩ : ∃ X, fmtI (digS s) = X := ⟨_, rfl⟩
  obtain ⟨Y, hY⟩ : ∃ Y, fmtI n = Y := ⟨_, rfl⟩
  rw [hX] at HF HN1 HL1
  rw [hY] at HF HN2 HL2
  generalize digS s = dg at *
  have s1 : ¬ 9223372036854775807 < 5 + X.length := by have := HL1.out; omega
  have s2 : ¬ 9223372036854775807 < 5 + X.length + 1 := by have := HL1.out; omega
  have s3 : ¬ 9223372036854775807 < 5 + X.length + 1 + Y.length := by have := HL1.out; have := HL2.out; omega
  have s4 : ¬ 9223372036854775807 < 5 + X.length + 1 + Y.length + 1 := by have := HL1.out; have := HL2.out; omega
  clear h hX hY hta hml
  go_enter Tryz.func11, Tryz.ntmps11
  go_upto_region 3 with (first | (go_at_call 22; (with_reducible refine (HVS.out true hok _ (by repeat (first | (with_reducible exact Below.refl _ _) | (with_reducible assumption) | ((with_reducible refine Below.alloc ?_ ?_ _); rotate_left; (first | omega | (simp <;> omega))) | ((with_reducible refine Below.setCell ?_ ?_ _); rotate_left; (first | omega | (simp <;> omega))) | (with_reducible refine below_drewN ?_ _) | (with_reducible refine Below.drew ?_) | ((with_reducible refine Below.step (by assumption) ?_ ?_); rotate_left; (first | omega | (simp <;> omega)))))).mono ?_); rintro e w1 ⟨rfl, hb1⟩; have hz1 := hb1.size; (try simp at hz1); have HB1 : Hid (Below w.heap.size w w1) := Lib.hid (Below.step hb1 (by repeat (first | (with_reducible exact Below.refl _ _) | (with_reducible assumption) | ((with_reducible refine Below.alloc ?_ ?_ _); rotate_left; (first | omega | (simp <;> omega))) | ((with_reducible refine Below.setCell ?_ ?_ _); rotate_left; (first | omega | (simp <;> omega))) | (with_reducible refine below_drewN ?_ _) | (with_reducible refine Below.drew ?_) | ((with_reducible refine Below.step (by assumption) ?_ ?_); rotate_left; (first | omega | (simp <;> omega))))) (by first | omega | (simp <;> omega))); have HP1 : Hid (Own w1 w.heap.size 38 [.int .i64 s.a, .int .i64 s.b, .int .i64 s.c, .int .i64 s.d, .bool s.e, .int .i64 s.f, .int .i64 s.g, .int .i64 s.log, .slice TA s.tex.length tc, .slice P s.ps.length pc, .slice Q s.ss.length qc, .int .i64 s.side]) := Lib.hid (Own.step hb1 HPZ.out); clear hb1) | (go_at_call 31; (with_reducible refine (HIN.out true hin _).mono ?_); rintro e w' ⟨rfl, rfl⟩) | fail)
  have t0 : w1.cell? ⟨w.heap.size, 0, none⟩ = some (.int .i64 s.a) := HP1.out.cell 0
  have t1 : w1.cell? ⟨w.heap.size, 1, none⟩ = some (.int .i64 s.b) := HP1.out.cell 1
  have t2 : w1.cell? ⟨w.heap.size, 2, none⟩ = some (.int .i64 s.c) := HP1.out.cell 2
  have t3 : w1.cell? ⟨w.heap.size, 3, none⟩ = some (.int .i64 s.d) := HP1.out.cell 3
  have t4 : w1.cell? ⟨w.heap.size, 4, none⟩ = some (.bool s.e) := HP1.out.cell 4
  have t5 : w1.cell? ⟨w.heap.size, 5, none⟩ = some (.int .i64 s.f) := HP1.out.cell 5
  have t6 : w1.cell? ⟨w.heap.size, 6, none⟩ = some (.int .i64 s.g) := HP1.out.cell 6
  have t7 : w1.cell? ⟨w.heap.size, 7, none⟩ = some (.int .i64 s.log) := HP1.out.cell 7
  have t8 : w1.cell? ⟨w.heap.size, 8, none⟩ = some (.slice TA s.tex.length tc) := HP1.out.cell 8
  have t9 : w1.cell? ⟨w.heap.size, 9, none⟩ = some (.slice P s.ps.length pc) := HP1.out.cell 9
  have t10 : w1.cell? ⟨w.heap.size, 10, none⟩ = some (.slice Q s.ss.length qc) := HP1.out.cell 10
  have t11 : w1.cell? ⟨w.heap.size, 11, none⟩ = some (.int .i64 s.side) := HP1.out.cell 11
  clear HVS HPZ
  go_wp2_with (first | (go_at_call 8; (with_reducible refine (HDG.out _ HB1.out).mono ?_); rintro e wF ⟨rfl, hb2⟩; have HB2 : Hid (Below w.heap.size w wF) := Lib.hid (Below.step hb2 HB1.out HB1.out.size); clear hb2) | (go_at_call 32; (with_reducible refine (HN1.out _ HB2.out).mono ?_); rintro e w3 ⟨rfl, hb3⟩; have HB3 : Hid (Below w.heap.size w w3) := Lib.hid (Below.step hb3 HB2.out HB2.out.size); clear hb3) | (go_at_call 32; (with_reducible refine (HN2.out _ HB3.out).mono ?_); rintro e w4 ⟨rfl, hb4⟩; have HB4 : Hid (Below w.heap.size w w4) := Lib.hid (Below.step hb4 HB3.out HB3.out.size); clear hb4) | fail)
  go_ret
  refine ⟨?_, HB4.out⟩
  rw [HF.out]
  show Ending.returned (Value.string ((((({ data := [102, 105, 108, 109, 32].toArray } : ByteArray) ++ { data := X.toArray }) ++ { data := [32].toArray }) ++ { data := Y.toArray }) ++ { data := [10].toArray })) = _
  rw [str_cat, str_cat, str_cat, str_cat]
end Go.Proofs.YtjipfgadamokaaaGreatDoor
