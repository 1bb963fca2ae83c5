/- The law FnRecords: a record is recovered from its text, and a shortened one is rejected. -/
import Derived.Test.YtlepnjahpmlccaaDoorDrawRec
import Derived.Test.YtlepnjahpmlccaaDoorParseRecordL
namespace Go.Proofs.YtlepnjahpmlccaaDoor
open Go.ChangeShapes Go.WideShapes Go.ChangeAt Go.RowKit Go.Lib
set_option linter.unusedVariables false
set_option maxRecDepth 100000
set_option maxHeartbeats 4000000 in
theorem L_sameInts {A B : Option Addr} {c d : Nat} {l : List Int} (w : World) (h : RS w 1 A l.length c (ints l)) (k : RS w 1 B l.length d (ints l)) :
    Calls Tryd.prog 26 #[.slice A l.length c, .slice B l.length d] w fun e w' => e = .returned (.bool true) ∧ w = w' := by
  obtain ⟨hn, hc, hr⟩ := h.open_
  obtain ⟨_, _, kr⟩ := k.open_
  unfold maxLen at hc
  clear h k
  have HR := Lib.hid hr
  have KR := Lib.hid kr
  clear hr kr
  go_enter Tryd.func26, Tryd.ntmps26
  go_wp2_with fail
  go_loop [5, 6, 14] (fun _ _ i => ∃ k : Nat, k ≤ l.length ∧ i = .int .i64 k) (fun _ _ i => l.length - (RowKit.intOf i).toNat)
  case atStart => exact ⟨0, Nat.zero_le _, rfl⟩
  case round =>
    obtain ⟨k, hk, rfl⟩ := hrel
    by_cases hlt : k < l.length
    · obtain ⟨b, o, rfl, hbh, hcell⟩ := HR.out (by omega)
      obtain ⟨b2, o2, rfl, hbh2, hcell2⟩ := KR.out (by omega)
      have c1 : w.cell? ⟨b, o + k, none⟩ = some (.int .i64 l[k]) := by rw [hcell k (by omega), ints_at hlt]
      have c2 : w.cell? ⟨b2, o2 + k, none⟩ = some (.int .i64 l[k]) := by rw [hcell2 k (by omega), ints_at hlt]
      have i2 : (k : Int) < l.length := by omega
      clear hcell hcell2
      generalize hx : l[k] = x at *
      clear hx
      go_wp2_with fail
      go_round
      case rel => exact ⟨k + 1, by omega, by go_num⟩
      case measure => simp [RowKit.intOf]; omega
    · obtain rfl : k = l.length := by omega
      go_wp2_with fail
      go_ret
      exact ⟨rfl, rfl⟩
set_option maxHeartbeats 4000000 in
theorem S_makeRecord {c : Nat} {A : Option Addr} {l : List Int} (w : World) (hl : l.length ≤ 1048576) (h : RS w 1 A l.length c (u8s l)) :
    Calls Tryd.prog 23 #[.slice A l.length c] w (fun e w' => DrawnRec w e w' ∧ Below w.heap.size w w') := by
  have HR := Lib.hid h
  clear h
  go_enter Tryd.func23, Tryd.ntmps23
  go_wp2_with fail
  refine (S_newCur _ hl (HR.out.alloc _)).mono ?_
  rintro e w1 ⟨g, rfl, hg, hc, hb⟩
  (try simp at hg)
  have hz1 := hb.size
  (try simp at hz1)
  have HC := Lib.hid hc
  have hrb : Own w1 w.heap.size 37 [.int .i64 0, .slice none 0 0] := Own.step hb (Own.new w _ #[_, _])
  have HB := Lib.hid (Below.trans (Below.alloc (Below.refl w.heap.size w) (Nat.le_refl _) _) (hb.mono (by simp)))
  have HRB := Lib.hid hrb
  clear hc hb hrb
  go_wp2_with fail
  refine (S_drawRecord _ HC.out).mono ?_
  rintro e w2 ⟨⟨i, px, P, k, hv, rfl, ho, hge⟩, hc, hO⟩
  have hz2 := hO.size
  have hrb := hO.own HRB.out (by omega) (by simp; omega)
  have rb0 := hrb.cell 0
  have rb1 := hrb.cell 1
  have rbf := hrb.frozen
  simp only [List.getElem?_cons_zero, List.getElem?_cons_succ] at rb0 rb1
  have HO2 := Lib.hid (Below.trans HB.out (hO.below (by omega) (fun x hx => by simp at hx; omega)))
  have HOP := Lib.hid ho
  have HGE := Lib.hid hge
  clear hc hO hrb ho hge
  go_wp2_with fail
  refine bodyPost_ret (v := vLogged i (.slice P px.length k)) (by simp [results, Tryd.results23, go_sem, *]) rfl ?_
  refine ⟨⟨i, px, P, k, hv, rfl, ?_, fun x hx => by have := HGE.out x hx; omega⟩, (by repeat (first | (with_reducible exact Below.refl _ _) | (with_reducible exact HO2.out) | (with_reducible assumption) | ((with_reducible refine Below.alloc ?_ ?_ _); rotate_left; (first | omega | (simp <;> omega))) | ((with_reducible refine Below.setCell ?_ ?_ _); rotate_left; (first | omega | (simp <;> omega))) | (with_reducible refine below_drewN ?_ _) | (with_reducible refine Below.drew ?_) | ((with_reducible refine Below.step (by assumption) ?_ ?_); rotate_left; (first | omega | (simp <;> omega)))))⟩
  exact (by repeat (first | (with_reducible exact HOP.out) | (with_reducible refine OwnS.drew ?_) | (with_reducible refine OwnS.drewN ?_ _) | ((with_reducible refine OwnS.far ?_ ?_ _); rotate_left; (intro x hx; have := HGE.out x hx; simp; omega))))
theorem fmtR_len {i : Int} {l : List Int} (h : validR i l = true) : (fmtR i l).length ≤ 2000 ∧ 1 ≤ (fmtR i l).length := by
  rw [fmtR_yes h]
  have h1 := fmtI_len i
  have h2 := fmtI_len (hashF (i :: l))
  have h3 := fmtL_len l
  have h4 := (validR_all h).2.2.1
  constructor
  · simp; omega
  · simp
/-- A shortened line is that of no record. -/
theorem short_none {i : Int} {l : List Int} (h : validR i l = true) {j : Nat} (hj : j < (fmtR i l).length) : parseR ((fmtR i l).take j) = none := by
  refine parseR_none (fun i' l' hv e => ?_)
  rw [fmtR_body h] at e hj
  rw [fmtR_body hv] at e
  have hm : (10 : UInt8) ∈ (bodyR i l ++ [10]).take j := by rw [← e]; simp
  rw [List.take_append_of_le_length (by simp at hj; omega)] at hm
  exact body_ne10 i l 10 (List.mem_of_mem_take hm) rfl
theorem clamp_rng2 (n : Int) (m : Nat) : 0 ≤ clampF n 0 m ∧ clampF n 0 m ≤ m := by unfold clampF; (repeat' split) <;> omega
def crashF (s : ByteArray) (k : Int) : ByteArray := s.extract 0 (clampF k 0 s.size).toNat
theorem crash_take (T : List UInt8) (k : Int) : crashF ⟨T.toArray⟩ k = ⟨(T.take (clampF k 0 T.length).toNat).toArray⟩ := by
  unfold crashF
  rw [str_extract, List.drop_zero]; rfl
set_option maxHeartbeats 400000 in
theorem I_CrashLog (s : ByteArray) (k : Int) (hs : s.size ≤ maxLen) (w : World) :
    Calls Tryd.prog 24 #[.string s, .int .i64 k] w fun e w' => e = .returned (.string (crashF s k)) ∧ w = w' := by
  unfold maxLen at hs
  have hr := clamp_rng2 k s.size
  go_enter Tryd.func24, Tryd.ntmps24
  go_wp2_with (go_at_call 53; refine (I_Clamp _ _ _ _).mono ?_; rintro e w' ⟨rfl, rfl⟩)
  go_ret
  exact ⟨rfl, rfl⟩
set_option maxHeartbeats 16000000 in
theorem L_FnRecords {tp : TypeId} {p : Value} {A : Option Addr} {c : Nat} {l : List Int} (w : World) (h : RS w 1 A l.length c (u8s l)) (he : Env w) (hd : Dam tp p w) :
    Calls Tryd.prog 7 #[.slice A l.length c] w fun e w' => e = .returned (.bool true) ∧ Below w.heap.size w w' := by
  have hlm := h.len
  unfold maxLen at hlm
  have HR := Lib.hid h
  have HE := Lib.hid he
  have HD := Lib.hid hd
  clear h he hd
  rcases Nat.lt_or_ge 1048576 l.length with hbig | hl
  · have hbig' : (1048576 : Int) < (l.length : Int) := by omega
    go_enter Tryd.func7, Tryd.ntmps7
    go_wp2_with fail
    go_ret
    exact ⟨rfl, (by repeat (first | (with_reducible exact Below.refl _ _) | (with_reducible assumption) | ((with_reducible refine Below.alloc ?_ ?_ _); rotate_left; (first | omega | (simp <;> omega))) | ((with_reducible refine Below.setCell ?_ ?_ _); rotate_left; (first | omega | (simp <;> omega))) | (with_reducible refine below_drewN ?_ _) | (with_reducible refine Below.drew ?_) | ((with_reducible refine Below.step (by assumption) ?_ ?_); rotate_left; (first | omega | (simp <;> omega)))))⟩
  have hl' : ¬ (1048576 : Int) < (l.length : Int) := by omega
  go_enter Tryd.func7, Tryd.ntmps7
  go_wp2_with fail
  refine (S_makeRecord _ hl HR.out).mono ?_
  rintro e w1 ⟨⟨i, px, P, k, hv, rfl, ho, hge⟩, hb⟩
  have z1 := hb.size
  have B1 : Below w.heap.size w w1 := hb
  have QP := Lib.hid ho.rs
  have hT := fmtR_len hv
  have HP1 : Hid (parseR (fmtR i px) = some (i, px)) := Lib.hid (parseR_some hv rfl)
  have HSH : Hid (∀ j, j < (fmtR i px).length → parseR ((fmtR i px).take j) = none) := Lib.hid (fun j hj => short_none hv hj)
  clear ho hge hb
  generalize hTT : fmtR i px = T at *
  have HFR : Hid (∀ wx, Below w1.heap.size w1 wx → Below w.heap.size w wx → Calls Tryd.prog 17 #[vLogged i (.slice P px.length k)] wx fun e w' => e = .returned (str T) ∧ Below wx.heap.size wx w') := Lib.hid (fun wx h1 h2 => by have h0 := I_FormatRecord (i := i) wx (RS.step h1 QP.out) (HE.out.tab.step h2); rwa [hTT] at h0)
  have HPR : Hid (∀ wx, Below w.heap.size w wx → Calls Tryd.prog 20 #[str T] wx fun e w' => ∃ Q q, e = .returned (.tuple #[vLogged i (.slice Q px.length q), .bool true]) ∧ RS w' 1 Q px.length q (ints px) ∧ Below wx.heap.size wx w') := Lib.hid (fun wx h2 => by
    have h0 := I_ParseRecord T wx (by omega) (HE.out.step h2) (HD.out.step h2)
    rw [HP1.out] at h0
    exact h0.mono fun e w' ⟨Q, q, h1, h3, _, h4⟩ => ⟨Q, q, h1, h3.rs, h4⟩)
  have HPN : Hid (∀ (U : List UInt8) wx, parseR U = none → U.length ≤ 1048576 → Below w.heap.size w wx → Calls Tryd.prog 20 #[str U] wx fun e w' => ∃ Q q, e = .returned (.tuple #[vLogged 0 (.slice Q 0 q), .bool false]) ∧ Below wx.heap.size wx w') := Lib.hid (fun U wx hu hul h2 => by
    have h0 := I_ParseRecord U wx hul (HE.out.step h2) (HD.out.step h2)
    rw [hu] at h0
    exact h0.mono fun e w' ⟨Q, q, h1, _, _, h4⟩ => ⟨Q, q, h1, h4⟩)
  clear hTT hv HP1
  obtain ⟨hT1, hT2⟩ := hT
  go_wp2_with fail
  refine (HFR.out _ (by repeat (first | (with_reducible exact Below.refl _ _) | (with_reducible assumption) | ((with_reducible refine Below.alloc ?_ ?_ _); rotate_left; (first | omega | (simp <;> omega))) | ((with_reducible refine Below.setCell ?_ ?_ _); rotate_left; (first | omega | (simp <;> omega))) | (with_reducible refine below_drewN ?_ _) | (with_reducible refine Below.drew ?_) | ((with_reducible refine Below.step (by assumption) ?_ ?_); rotate_left; (first | omega | (simp <;> omega))))) (by repeat (first | (with_reducible exact Below.refl _ _) | (with_reducible assumption) | ((with_reducible refine Below.alloc ?_ ?_ _); rotate_left; (first | omega | (simp <;> omega))) | ((with_reducible refine Below.setCell ?_ ?_ _); rotate_left; (first | omega | (simp <;> omega))) | (with_reducible refine below_drewN ?_ _) | (with_reducible refine Below.drew ?_) | ((with_reducible refine Below.step (by assumption) ?_ ?_); rotate_left; (first | omega | (simp <;> omega)))))).mono ?_
  rintro e w2 ⟨rfl, hb⟩
  have z2 := hb.size
  (try simp at z2)
  have C2 : Below w1.heap.size w1 w2 := (by repeat (first | (with_reducible exact Below.refl _ _) | (with_reducible assumption) | ((with_reducible refine Below.alloc ?_ ?_ _); rotate_left; (first | omega | (simp <;> omega))) | ((with_reducible refine Below.setCell ?_ ?_ _); rotate_left; (first | omega | (simp <;> omega))) | (with_reducible refine below_drewN ?_ _) | (with_reducible refine Below.drew ?_) | ((with_reducible refine Below.step (by assumption) ?_ ?_); rotate_left; (first | omega | (simp <;> omega)))))
  have B2 : Below w.heap.size w w2 := (by repeat (first | (with_reducible exact Below.refl _ _) | (with_reducible assumption) | ((with_reducible refine Below.alloc ?_ ?_ _); rotate_left; (first | omega | (simp <;> omega))) | ((with_reducible refine Below.setCell ?_ ?_ _); rotate_left; (first | omega | (simp <;> omega))) | (with_reducible refine below_drewN ?_ _) | (with_reducible refine Below.drew ?_) | ((with_reducible refine Below.step (by assumption) ?_ ?_); rotate_left; (first | omega | (simp <;> omega)))))
  have a2 := fun o => hb.cell (p := ⟨w1.heap.size, o, none⟩) (by first | omega | (simp <;> omega))
  have a2z : w1.heap.size < w2.heap.size := by omega
  clear hb
  go_wp2_with fail
  refine (HPR.out _ (by repeat (first | (with_reducible exact Below.refl _ _) | (with_reducible assumption) | ((with_reducible refine Below.alloc ?_ ?_ _); rotate_left; (first | omega | (simp <;> omega))) | ((with_reducible refine Below.setCell ?_ ?_ _); rotate_left; (first | omega | (simp <;> omega))) | (with_reducible refine below_drewN ?_ _) | (with_reducible refine Below.drew ?_) | ((with_reducible refine Below.step (by assumption) ?_ ?_); rotate_left; (first | omega | (simp <;> omega)))))).mono ?_
  rintro e w3 ⟨Q, q, rfl, hq, hb⟩
  have z3 := hb.size
  have C3 : Below w1.heap.size w1 w3 := (by repeat (first | (with_reducible exact Below.refl _ _) | (with_reducible assumption) | ((with_reducible refine Below.alloc ?_ ?_ _); rotate_left; (first | omega | (simp <;> omega))) | ((with_reducible refine Below.setCell ?_ ?_ _); rotate_left; (first | omega | (simp <;> omega))) | (with_reducible refine below_drewN ?_ _) | (with_reducible refine Below.drew ?_) | ((with_reducible refine Below.step (by assumption) ?_ ?_); rotate_left; (first | omega | (simp <;> omega)))))
  have B3 : Below w.heap.size w w3 := (by repeat (first | (with_reducible exact Below.refl _ _) | (with_reducible assumption) | ((with_reducible refine Below.alloc ?_ ?_ _); rotate_left; (first | omega | (simp <;> omega))) | ((with_reducible refine Below.setCell ?_ ?_ _); rotate_left; (first | omega | (simp <;> omega))) | (with_reducible refine below_drewN ?_ _) | (with_reducible refine Below.drew ?_) | ((with_reducible refine Below.step (by assumption) ?_ ?_); rotate_left; (first | omega | (simp <;> omega)))))
  have QQ := Lib.hid hq
  have a3 := fun o => hb.cell (p := ⟨w1.heap.size, o, none⟩) (by first | omega | (simp <;> omega))
  have a3z : w1.heap.size < w3.heap.size := by omega
  have n13 : ¬ w1.heap.size = w3.heap.size := by omega
  have n31 : ¬ w3.heap.size = w1.heap.size := by omega
  clear hb hq
  go_wp2_with fail
  refine (S_makeNum (n := 1) _ hl (by omega) (RS.step (by repeat (first | (with_reducible exact Below.refl _ _) | (with_reducible assumption) | ((with_reducible refine Below.alloc ?_ ?_ _); rotate_left; (first | omega | (simp <;> omega))) | ((with_reducible refine Below.setCell ?_ ?_ _); rotate_left; (first | omega | (simp <;> omega))) | (with_reducible refine below_drewN ?_ _) | (with_reducible refine Below.drew ?_) | ((with_reducible refine Below.step (by assumption) ?_ ?_); rotate_left; (first | omega | (simp <;> omega))))) HR.out)).mono ?_
  rintro e w4 ⟨x, rfl, x0, x1, hb⟩
  have z4 := hb.size
  (try simp at z4)
  have D4 : Below w3.heap.size w3 w4 := (by repeat (first | (with_reducible exact Below.refl _ _) | (with_reducible assumption) | ((with_reducible refine Below.alloc ?_ ?_ _); rotate_left; (first | omega | (simp <;> omega))) | ((with_reducible refine Below.setCell ?_ ?_ _); rotate_left; (first | omega | (simp <;> omega))) | (with_reducible refine below_drewN ?_ _) | (with_reducible refine Below.drew ?_) | ((with_reducible refine Below.step (by assumption) ?_ ?_); rotate_left; (first | omega | (simp <;> omega)))))
  have C4 : Below w1.heap.size w1 w4 := (by repeat (first | (with_reducible exact Below.refl _ _) | (with_reducible assumption) | ((with_reducible refine Below.alloc ?_ ?_ _); rotate_left; (first | omega | (simp <;> omega))) | ((with_reducible refine Below.setCell ?_ ?_ _); rotate_left; (first | omega | (simp <;> omega))) | (with_reducible refine below_drewN ?_ _) | (with_reducible refine Below.drew ?_) | ((with_reducible refine Below.step (by assumption) ?_ ?_); rotate_left; (first | omega | (simp <;> omega)))))
  have B4 : Below w.heap.size w w4 := (by repeat (first | (with_reducible exact Below.refl _ _) | (with_reducible assumption) | ((with_reducible refine Below.alloc ?_ ?_ _); rotate_left; (first | omega | (simp <;> omega))) | ((with_reducible refine Below.setCell ?_ ?_ _); rotate_left; (first | omega | (simp <;> omega))) | (with_reducible refine below_drewN ?_ _) | (with_reducible refine Below.drew ?_) | ((with_reducible refine Below.step (by assumption) ?_ ?_); rotate_left; (first | omega | (simp <;> omega)))))
  have a4 := fun o => hb.cell (p := ⟨w1.heap.size, o, none⟩) (by first | omega | (simp <;> omega))
  have b4 := fun o => hb.cell (p := ⟨w3.heap.size, o, none⟩) (by first | omega | (simp <;> omega))
  have a4z : w1.heap.size < w4.heap.size := by omega
  have b4z : w3.heap.size < w4.heap.size := by omega
  clear hb
  have t0 : ¬ (T.length : Int) + 1 = 0 := by omega
  have t1 : IntKind.i64.wrap ((T.length : Int) + 1) = T.length + 1 := IntWalk.i64_in _ (by omega)
  obtain ⟨r, hr⟩ : ∃ r, x.tmod ((T.length : Int) + 1) = r := ⟨_, rfl⟩
  have hr0 : 0 ≤ r ∧ r ≤ T.length := by
    rw [← hr, Int.tmod_eq_emod_of_nonneg x0]
    have h1 := Int.emod_nonneg x (b := (T.length : Int) + 1) (by omega)
    have h2 := Int.emod_lt_of_pos x (b := (T.length : Int) + 1) (by omega)
    omega
  have t2 : IntKind.i64.wrap (r - 1) = r - 1 := IntWalk.i64_in _ (by omega)
  obtain ⟨j, hj⟩ : ∃ j, (clampF (r - 1) 0 T.length).toNat = j := ⟨_, rfl⟩
  have hjl : j < T.length := by rw [← hj]; unfold clampF; (repeat' split) <;> omega
  have HCr : Hid (∀ wx, Calls Tryd.prog 24 #[str T, .int .i64 (r - 1)] wx fun e w' => e = .returned (str (T.take j)) ∧ wx = w') := Lib.hid (fun wx => by
    have h0 := I_CrashLog ⟨T.toArray⟩ (r - 1) (by show T.length ≤ _; unfold maxLen; omega) wx
    rwa [crash_take, hj] at h0)
  have HPN2 := Lib.hid (fun wx h => HPN.out (T.take j) wx (HSH.out j hjl) (by rw [List.length_take]; omega) h)
  have hr' := Lib.hid hr
  clear hj hjl
  go_wp2_with (first | (go_at_call 24; (with_reducible refine (HCr.out _).mono ?_); rintro e w' ⟨rfl, rfl⟩) | fail)
  refine (HPN2.out _ (by repeat (first | (with_reducible exact Below.refl _ _) | (with_reducible assumption) | ((with_reducible refine Below.alloc ?_ ?_ _); rotate_left; (first | omega | (simp <;> omega))) | ((with_reducible refine Below.setCell ?_ ?_ _); rotate_left; (first | omega | (simp <;> omega))) | (with_reducible refine below_drewN ?_ _) | (with_reducible refine Below.drew ?_) | ((with_reducible refine Below.step (by assumption) ?_ ?_); rotate_left; (first | omega | (simp <;> omega)))))).mono ?_
  rintro e w5 ⟨Z, zz, rfl, hb⟩
  have z5 := hb.size
  have D5 : Below w3.heap.size w3 w5 := (by repeat (first | (with_reducible exact Below.refl _ _) | (with_reducible assumption) | ((with_reducible refine Below.alloc ?_ ?_ _); rotate_left; (first | omega | (simp <;> omega))) | ((with_reducible refine Below.setCell ?_ ?_ _); rotate_left; (first | omega | (simp <;> omega))) | (with_reducible refine below_drewN ?_ _) | (with_reducible refine Below.drew ?_) | ((with_reducible refine Below.step (by assumption) ?_ ?_); rotate_left; (first | omega | (simp <;> omega)))))
  have C5 : Below w1.heap.size w1 w5 := (by repeat (first | (with_reducible exact Below.refl _ _) | (with_reducible assumption) | ((with_reducible refine Below.alloc ?_ ?_ _); rotate_left; (first | omega | (simp <;> omega))) | ((with_reducible refine Below.setCell ?_ ?_ _); rotate_left; (first | omega | (simp <;> omega))) | (with_reducible refine below_drewN ?_ _) | (with_reducible refine Below.drew ?_) | ((with_reducible refine Below.step (by assumption) ?_ ?_); rotate_left; (first | omega | (simp <;> omega)))))
  have B5 : Below w.heap.size w w5 := (by repeat (first | (with_reducible exact Below.refl _ _) | (with_reducible assumption) | ((with_reducible refine Below.alloc ?_ ?_ _); rotate_left; (first | omega | (simp <;> omega))) | ((with_reducible refine Below.setCell ?_ ?_ _); rotate_left; (first | omega | (simp <;> omega))) | (with_reducible refine below_drewN ?_ _) | (with_reducible refine Below.drew ?_) | ((with_reducible refine Below.step (by assumption) ?_ ?_); rotate_left; (first | omega | (simp <;> omega)))))
  have a5 := fun o => hb.cell (p := ⟨w1.heap.size, o, none⟩) (by first | omega | (simp <;> omega))
  have b5 := fun o => hb.cell (p := ⟨w3.heap.size, o, none⟩) (by first | omega | (simp <;> omega))
  have a5z : w1.heap.size < w5.heap.size := by omega
  have b5z : w3.heap.size < w5.heap.size := by omega
  have n15 : ¬ w1.heap.size = w5.heap.size := by omega
  have n35 : ¬ w3.heap.size = w5.heap.size := by omega
  clear hb
  go_wp2_with fail
  refine (L_sameInts _ (RS.step (by repeat (first | (with_reducible exact Below.refl _ _) | (with_reducible assumption) | ((with_reducible refine Below.alloc ?_ ?_ _); rotate_left; (first | omega | (simp <;> omega))) | ((with_reducible refine Below.setCell ?_ ?_ _); rotate_left; (first | omega | (simp <;> omega))) | (with_reducible refine below_drewN ?_ _) | (with_reducible refine Below.drew ?_) | ((with_reducible refine Below.step (by assumption) ?_ ?_); rotate_left; (first | omega | (simp <;> omega))))) QQ.out) (RS.step (by repeat (first | (with_reducible exact Below.refl _ _) | (with_reducible assumption) | ((with_reducible refine Below.alloc ?_ ?_ _); rotate_left; (first | omega | (simp <;> omega))) | ((with_reducible refine Below.setCell ?_ ?_ _); rotate_left; (first | omega | (simp <;> omega))) | (with_reducible refine below_drewN ?_ _) | (with_reducible refine Below.drew ?_) | ((with_reducible refine Below.step (by assumption) ?_ ?_); rotate_left; (first | omega | (simp <;> omega))))) QP.out)).mono ?_
  rintro e w' ⟨rfl, rfl⟩
  go_wp2_with fail
  go_ret
  exact ⟨rfl, (by repeat (first | (with_reducible exact Below.refl _ _) | (with_reducible assumption) | ((with_reducible refine Below.alloc ?_ ?_ _); rotate_left; (first | omega | (simp <;> omega))) | ((with_reducible refine Below.setCell ?_ ?_ _); rotate_left; (first | omega | (simp <;> omega))) | (with_reducible refine below_drewN ?_ _) | (with_reducible refine Below.drew ?_) | ((with_reducible refine Below.step (by assumption) ?_ ?_); rotate_left; (first | omega | (simp <;> omega)))))⟩
def fnRecordsLaid : List (String × DataW Unit) := [("math/bits.deBruijn32tab", Rows.laid_math_bits_deBruijn32tab), ("math/bits.deBruijn64tab", Rows.laid_math_bits_deBruijn64tab), ("internal/strconv.uint64pow10", Rows.laid_internal_strconv_uint64pow10), ("strconv.ErrRange", Rows.laid_strconv_ErrRange), ("strconv.ErrSyntax", Rows.laid_strconv_ErrSyntax), ("loop.example/g00809/impl.errDamaged", Rows.laid_loop_example_g00809_impl_errDamaged)]
theorem FnRecords_walk : LawWalkD fnRecordsLaid 7 [44] := by
  intro H enc W base args ds ps hA hval hlt hsz hL hsh
  obtain ⟨v0, rfl, h0⟩ := args1 hA hval
  obtain ⟨A, c, l, rfl, h⟩ := h0.bytes
  obtain ⟨tp, p, hd⟩ := Dam.of_laid hL
  exact L_FnRecords W h (Env.of_laid hL hsh) hd
end Go.Proofs.YtlepnjahpmlccaaDoor
