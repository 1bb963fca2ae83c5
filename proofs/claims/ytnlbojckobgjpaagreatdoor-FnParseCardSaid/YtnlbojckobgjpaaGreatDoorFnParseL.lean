/- MADE BY PROGRAM (genfnparse.py). The law FnParse: a program is recovered from its source. -/
import Derived.Test.YtnlbojckobgjpaaGreatDoorDrawTr2
import Derived.Test.YtnlbojckobgjpaaGreatDoorTokTx
import Derived.Test.YtnlbojckobgjpaaGreatDoorParL
import Derived.Test.YtnlbojckobgjpaaGreatDoorPriP
import Derived.Test.YtnlbojckobgjpaaGreatDoorProgT
import Derived.Test.YtnlbojckobgjpaaGreatDoorLawH
import Derived.Test.YtnlbojckobgjpaaGreatDoorBytes
import Derived.BigRegion
set_option linter.unusedVariables false
set_option linter.unusedSimpArgs false
namespace Go.Proofs.YtnlbojckobgjpaaGreatDoor
open Go.ChangeShapes Go.WideShapes Go.ChangeAt Go.RowKit Go.Lib
set_option maxRecDepth 100000
theorem ProgM.keep {w w' : World} {base : Nat} {NA : Option Addr} {nc : Nat} {ns : List ENode} {AA : Option Addr} {ac : Nat} {as_ : List EAssign} (h : ProgM w base NA nc ns AA ac as_) (hk : ∀ x, base ≤ x → x < w.heap.size → w'.heap[x]? = w.heap[x]?) : ProgM w' base NA nc ns AA ac as_ := by
  obtain ⟨h1, ⟨cs, hg, hn, hp⟩, h3, h4, h5⟩ := h
  exact ⟨h1.keep (fun x hx => hk x (h1.ge x hx) (h1.lt x hx)), ⟨cs, hg.keep (fun x hx => hk x (hg.ge x hx) (hg.lt x hx)), hn.keep (fun y hy hl => hk y (by simp only [List.mem_append, List.mem_range, not_or] at hy; omega) hl), hp⟩, h3, h4, h5⟩
theorem ProgM.step {w w' : World} {base : Nat} {NA : Option Addr} {nc : Nat} {ns : List ENode} {AA : Option Addr} {ac : Nat} {as_ : List EAssign} (hb : Below w.heap.size w w') (h : ProgM w base NA nc ns AA ac as_) : ProgM w' base NA nc ns AA ac as_ := h.keep (fun x _ hl => hb.block x hl)
theorem okL_names {L : EL} (h : okL L) (hs : sizeL L ≤ 60) : (∀ x ∈ (progOf L).1, x.2.1.length ≤ maxLen) ∧ (∀ x ∈ (progOf L).2, x.1.length ≤ maxLen) := by
  have hv := valid_progOf h hs
  refine ⟨fun x hx => ?_, fun x hx => ?_⟩
  · obtain ⟨i, hi, rfl⟩ := List.getElem_of_mem hx
    have h1 := nodesTo_at (valid_nodes hv) hi
    unfold okNode okFields at h1
    simp only [Bool.and_eq_true] at h1
    have h2 := h1.1.1.1
    split at h2
    · have := (ident_name h2).2.1; unfold maxLen; omega
    · have h3 : ((progOf L).1[i]).2.1 = [] := by simpa using h2
      rw [h3]; unfold maxLen; simp
  · obtain ⟨i, hi, rfl⟩ := List.getElem_of_mem hx
    have := (ident_name (valid_root hv hi).1).2.1
    unfold maxLen; omega
set_option maxHeartbeats 8000000 in
theorem S_makeTree {c : Nat} {A : Option Addr} {l : List Int} (w : World) (hl : l.length ≤ 1048576) (h : RS w 1 A l.length c (u8s l)) :
    Calls Tryz.prog 4 #[.slice A l.length c] w fun e w' => ∃ (L : EL) (NA AA : Option Addr) (nc ac : Nat), okL L ∧ L ≠ [] ∧ L.length ≤ 3 ∧ sizeL L ≤ 18 ∧ e = .returned (vProg NA (progOf L).1.length nc AA (progOf L).2.length ac) ∧ ProgM w' w.heap.size NA nc (progOf L).1 AA ac (progOf L).2 ∧ Below w.heap.size w w' := by
  have HR := Lib.hid h
  clear h
  go_enter Tryz.func4, Tryz.ntmps4
  go_wp2_with fail
  refine (S_newCur _ hl (HR.out.alloc _)).mono ?_
  rintro e w1 ⟨g, rfl, hg, hc, hb⟩
  (try simp at hg)
  have hz1 := hb.size
  (try simp at hz1)
  have HC := Lib.hid hc
  have HRB1 : Hid (Own w1 w.heap.size 26 [.slice none 0 0, .slice none 0 0]) := Lib.hid (Own.step hb (Own.new w _ #[_, _]))
  have HB1 : Hid (Below w.heap.size w w1) := Lib.hid (Below.trans (Below.alloc (Below.refl w.heap.size w) (Nat.le_refl _) _) (hb.mono (by simp)))
  clear hc hb
  go_wp2_with fail
  refine (S_program _ HC.out).mono ?_
  rintro e w2 ⟨s, rfl, hp, hne, hc, hO⟩
  have hz2 := hO.size
  have HRB2 := Lib.hid (hO.own HRB1.out (by omega) (by simp; omega))
  have HB2 : Hid (Below w.heap.size w w2) := Lib.hid (Below.trans HB1.out (hO.below (by omega) (fun x hx => by simp at hx; omega)))
  obtain ⟨L, hok, hLn, hL3, hL18, hF⟩ := hp.parse (by omega) (by omega) (by omega) hne
  have hsl : s.length ≤ 1048576 := by obtain ⟨_, _, _, _, _, h, _⟩ := hp; omega
  have HPA : Hid (∀ wx, Calls Tryz.prog 12 #[str s] wx fun e w' => ∃ NA nc AA ac, e = .returned (.tuple #[.agg #[.slice NA (progOf L).1.length nc, .slice AA (progOf L).2.length ac], .int .i64 (-1)]) ∧ ProgM w' wx.heap.size NA nc (progOf L).1 AA ac (progOf L).2 ∧ Below wx.heap.size wx w') := Lib.hid (fun wx => by
    have := S_Parse wx hsl
    unfold OutParse at this
    rw [hF] at this
    exact this)
  clear hp hne hc hO hF
  go_wp2_with fail
  refine (HPA.out _).mono ?_
  rintro e w3 ⟨NA, nc, AA, ac, rfl, hpm, hb⟩
  have hz3 := hb.size
  have HPM := Lib.hid hpm
  have HB3 : Hid (Below w.heap.size w w3) := Lib.hid (Below.trans HB2.out (hb.mono HB2.out.size))
  have hrb := Own.step hb HRB2.out
  have rb0 := hrb.cell 0
  have rb1 := hrb.cell 1
  have rbf := hrb.frozen
  have rbl := hrb.lt
  simp only [List.getElem?_cons_zero, List.getElem?_cons_succ] at rb0 rb1
  have n1 : ¬ w.heap.size = w3.heap.size := by omega
  have HOK := Lib.hid (And.intro hok (And.intro hLn (And.intro hL3 hL18)))
  clear hpm hb hrb HPA hok hLn hL3 hL18
  go_wp2_with fail
  refine bodyPost_ret (v := .agg #[.slice NA (progOf L).1.length nc, .slice AA (progOf L).2.length ac]) (by simp [results, Tryz.results4, go_sem, *]) rfl ?_
  refine ⟨L, NA, AA, nc, ac, HOK.out.1, HOK.out.2.1, HOK.out.2.2.1, HOK.out.2.2.2, rfl, ?_, (by repeat (first | (with_reducible exact Below.refl _ _) | (with_reducible exact HB3.out) | (with_reducible assumption) | ((with_reducible refine Below.alloc ?_ ?_ _); rotate_left; (first | omega | (simp <;> omega))) | ((with_reducible refine Below.setCell ?_ ?_ _); rotate_left; (first | omega | (simp <;> omega))) | (with_reducible refine below_drewN ?_ _) | (with_reducible refine Below.drew ?_) | ((with_reducible refine Below.step (by assumption) ?_ ?_); rotate_left; (first | omega | (simp <;> omega)))))⟩
  refine ProgM.mono (base := w2.heap.size) (HPM.out.keep (fun x h1 h2 => ?_)) (by omega)
  have nx : ¬ x = w.heap.size := by omega
  have nx2 : ¬ x = w3.heap.size := by omega
  rw [Below.heap_alloc _ _ _ (by simpa [World.setCell] using h2), Below.heap_setCell _ _ _ _ (by exact nx), Below.heap_setCell _ _ _ _ (by exact nx)]
set_option maxHeartbeats 16000000 in
theorem L_FnParse {A : Option Addr} {c : Nat} {l : List Int} (w : World) (h : RS w 1 A l.length c (u8s l)) (hE : ErrT w) (hta : Tab w) :
    Calls Tryz.prog 3 #[.slice A l.length c] w fun e w' => e = .returned (.bool true) ∧ Below w.heap.size w w' := by
  have hlm := h.len
  unfold maxLen at hlm
  have HR := Lib.hid h
  have HE := Lib.hid hE
  have HTA := Lib.hid hta
  clear h hE hta
  rcases Nat.lt_or_ge 1048576 l.length with hbig | hl
  · have hbig' : (1048576 : Int) < (l.length : Int) := by omega
    go_enter Tryz.func3, Tryz.ntmps3
    go_wp2_with fail
    go_ret
    exact ⟨rfl, (by repeat (first | (with_reducible exact Below.refl _ _) | (with_reducible assumption) | ((with_reducible refine Below.alloc ?_ ?_ _); rotate_left; (first | omega | (simp <;> omega))) | ((with_reducible refine Below.setCell ?_ ?_ _); rotate_left; (first | omega | (simp <;> omega))) | (with_reducible refine below_drewN ?_ _) | (with_reducible refine Below.drew ?_) | ((with_reducible refine Below.step (by assumption) ?_ ?_); rotate_left; (first | omega | (simp <;> omega)))))⟩
  have hl' : ¬ (1048576 : Int) < (l.length : Int) := by omega
  go_enter Tryz.func3, Tryz.ntmps3
  go_wp2_with fail
  refine (S_makeTree _ hl HR.out).mono ?_
  rintro e w1 ⟨L, NA, AA, nc, ac, hok, hLn, hL3, hL18, rfl, hpm, hb1⟩
  have hz1 := hb1.size
  have HB1 := Lib.hid hb1
  have HPM1 := Lib.hid hpm
  have hnm := okL_names hok (by omega)
  have HPI1 : Hid (ProgIn w1 NA nc AA ac (progOf L)) := Lib.hid (ProgM.in_ hpm hnm.1 hnm.2)
  have hv := valid_progOf hok (by omega)
  have e1 : (progOf L).1.length = sizeL L := nodesL_len L 0
  have e2 : (progOf L).2.length = L.length := asgL_len L 0
  have hTl := textL_len L hok
  obtain ⟨Ts, ht1, ht2, ht3, ht4, ht5⟩ := toks_textL hok (by omega) (by omega)
  have HIN := Lib.hid ht4
  have HLA := Lib.hid ht5
  have HFP : Hid (∀ wx, Below w1.heap.size w1 wx → Calls Tryz.prog 5 #[vProg NA (progOf L).1.length nc AA (progOf L).2.length ac] wx fun e w' => e = .returned (str (textL L)) ∧ Below wx.heap.size wx w') := Lib.hid (fun wx hb => by
    have h0 := I_FormatProgram wx (HPI1.out.step hb) (by omega) (by omega) (HTA.out.step (Below.trans HB1.out (hb.mono HB1.out.size)))
    unfold progF at h0
    rw [if_pos hv, progT_progOf hok (by omega)] at h0
    exact h0)
  have hF := parse_textL hok (by omega) (by omega)
  have HPA : Hid (∀ wx, Below w.heap.size w wx → Calls Tryz.prog 7 #[str (textL L)] wx fun e w' => ∃ NB nd AB ad, e = .returned (.tuple #[.agg #[.slice NB (progOf L).1.length nd, .slice AB (progOf L).2.length ad], .int .i64 (-1)]) ∧ ProgM w' wx.heap.size NB nd (progOf L).1 AB ad (progOf L).2 ∧ Below wx.heap.size wx w') := Lib.hid (fun wx hb => by
    have := I_Parse (src := textL L) wx (by omega) (HE.out.step hb)
    unfold OutParse at this
    rw [hF] at this
    exact this)
  have HTK : Hid (∀ wx, Below w.heap.size w wx → Calls Tryz.prog 8 #[str (textL L)] wx fun e w' => ∃ TA tc, e = .returned (.tuple #[.slice TA Ts.length tc, .int .i64 (-1)]) ∧ RS w' 4 TA Ts.length tc (rTok Ts) ∧ Below wx.heap.size wx w') := Lib.hid (fun wx hb => by
    have := I_Tokenize (src := textL L) wx (by omega) (HE.out.step hb)
    unfold OutToks at this
    rw [ht1] at this
    exact this.mono (fun e w' ⟨TA, tc, q1, q2, q3⟩ => ⟨TA, tc, q1, q2.rs, q3⟩))
  have hne : textL L ≠ [] := by
    cases L with
    | nil => exact absurd rfl hLn
    | cons x r => simp [textL]
  have HSP : Hid (∀ NB nd AB ad wx, ProgIn wx NA nc AA ac (progOf L) → ProgIn wx NB nd AB ad (progOf L) → Calls Tryz.prog 9 #[vProg NA (progOf L).1.length nc AA (progOf L).2.length ac, vProg NB (progOf L).1.length nd AB (progOf L).2.length ad] wx fun e w' => e = .returned (.bool true) ∧ Below wx.heap.size wx w') := Lib.hid (fun NB nd AB ad wx h1 h2 => I_SameProgram wx h1 h2)
  have HRT : Hid (∀ wx, ProgIn wx NA nc AA ac (progOf L) → Calls Tryz.prog 11 #[vProg NA (progOf L).1.length nc AA (progOf L).2.length ac] wx fun e w' => ∃ B d, e = .returned (.slice B (progOf L).2.length d) ∧ Below wx.heap.size wx w') := Lib.hid (fun wx h1 => I_Roots wx h1 (by omega))
  have HNM := Lib.hid hnm
  have hal : ((progOf L).2.length : Int) ≠ 0 := by
    cases L with
    | nil => exact absurd rfl hLn
    | cons x r => rw [e2]; simp; omega
  have hal2 : (((progOf L).2.length : Int) == 0) = false := by simpa using hal
  have hal3 : ¬ (progOf L).2.length = 0 := by omega
  generalize hP : progOf L = p at *
  generalize hT : textL L = T at *
  have hTs : ({ data := T.toArray } : ByteArray) ≠ ByteArray.empty := by
    intro hc
    have := congrArg ByteArray.toList hc
    have h3 := congrArg (fun b : ByteArray => b.data.toList) hc
    simp at h3
    exact hne h3
  have HTP : Hid (1 ≤ Ts.length ∧ Ts.length ≤ 1000) := Lib.hid ⟨ht3, ht2⟩
  clear hpm hb1 hnm hv e1 e2 hTl ht1 ht4 ht5 hF hok hLn hL3 hL18 hP hT hal
  go_wp2_with fail
  refine (HFP.out _ (by repeat (first | (with_reducible exact Below.refl _ _) | (with_reducible assumption) | ((with_reducible refine Below.alloc ?_ ?_ _); rotate_left; (first | omega | (simp <;> omega))) | ((with_reducible refine Below.setCell ?_ ?_ _); rotate_left; (first | omega | (simp <;> omega))) | (with_reducible refine below_drewN ?_ _) | (with_reducible refine Below.drew ?_) | ((with_reducible refine Below.step (by assumption) ?_ ?_); rotate_left; (first | omega | (simp <;> omega)))))).mono ?_
  rintro e w2 ⟨rfl, hb2⟩
  have hz2 := hb2.size
  (try simp at hz2)
  have HB2 : Hid (Below w1.heap.size w1 w2) := Lib.hid (Below.step hb2 (by repeat (first | (with_reducible exact Below.refl _ _) | (with_reducible assumption) | ((with_reducible refine Below.alloc ?_ ?_ _); rotate_left; (first | omega | (simp <;> omega))) | ((with_reducible refine Below.setCell ?_ ?_ _); rotate_left; (first | omega | (simp <;> omega))) | (with_reducible refine below_drewN ?_ _) | (with_reducible refine Below.drew ?_) | ((with_reducible refine Below.step (by assumption) ?_ ?_); rotate_left; (first | omega | (simp <;> omega))))) (by first | omega | (simp <;> omega)))
  have HX2 : Hid (Own w2 w1.heap.size 26 [.slice NA p.1.length nc, .slice AA p.2.length ac]) := Lib.hid (Own.step hb2 (Own.new w1 _ #[_, _]))
  have x0 := HX2.out.cell 0
  have x1 := HX2.out.cell 1
  have xl := HX2.out.lt
  (try dsimp only [List.getElem?_cons_succ, List.getElem?_cons_zero] at x0 x1)
  clear hb2
  go_wp2_with fail
  refine (HPA.out _ (Below.trans HB1.out (HB2.out.mono HB1.out.size))).mono ?_
  rintro e w3 ⟨NB, nd, AB, ad, rfl, hpm3, hb3⟩
  have hz3 := hb3.size
  have HB3 : Hid (Below w1.heap.size w1 w3) := Lib.hid (Below.step hb3 HB2.out HB2.out.size)
  have HX3 := Lib.hid (Own.step hb3 HX2.out)
  have HPI3 : Hid (ProgIn w3 NB nd AB ad p) := Lib.hid (ProgM.in_ hpm3 HNM.out.1 HNM.out.2)
  clear hpm3 hb3 x0 x1 xl
  go_wp2_with fail
  refine (HTK.out _ (Below.trans HB1.out (Below.mono (by repeat (first | (with_reducible exact Below.refl _ _) | (with_reducible exact HB3.out) | (with_reducible assumption) | ((with_reducible refine Below.alloc ?_ ?_ _); rotate_left; (first | omega | (simp <;> omega))) | ((with_reducible refine Below.setCell ?_ ?_ _); rotate_left; (first | omega | (simp <;> omega))) | (with_reducible refine below_drewN ?_ _) | (with_reducible refine Below.drew ?_) | ((with_reducible refine Below.step (by assumption) ?_ ?_); rotate_left; (first | omega | (simp <;> omega))))) HB1.out.size))).mono ?_
  rintro e w4 ⟨TA, tc, rfl, hts, hb4⟩
  have hz4 := hb4.size
  (try simp at hz4)
  have HB4 : Hid (Below w1.heap.size w1 w4) := Lib.hid (Below.step hb4 (by repeat (first | (with_reducible exact Below.refl _ _) | (with_reducible exact HB3.out) | (with_reducible assumption) | ((with_reducible refine Below.alloc ?_ ?_ _); rotate_left; (first | omega | (simp <;> omega))) | ((with_reducible refine Below.setCell ?_ ?_ _); rotate_left; (first | omega | (simp <;> omega))) | (with_reducible refine below_drewN ?_ _) | (with_reducible refine Below.drew ?_) | ((with_reducible refine Below.step (by assumption) ?_ ?_); rotate_left; (first | omega | (simp <;> omega))))) (by first | omega | (simp <;> omega)))
  have HX4 := Lib.hid (Own.step hb4 (HX3.out.alloc _))
  have HY4 : Hid (Own w4 w3.heap.size 26 [.slice NB p.1.length nd, .slice AB p.2.length ad]) := Lib.hid (Own.step hb4 (Own.new w3 _ #[_, _]))
  have HPI4 : Hid (ProgIn w4 NB nd AB ad p) := Lib.hid (ProgIn.step (Below.step hb4 (Below.alloc (Below.refl _ _) (Nat.le_refl _) _) (by first | omega | (simp <;> omega))) HPI3.out)
  have HTS := Lib.hid hts
  have HSPx : Hid (∀ wx, Below w4.heap.size w4 wx → Calls Tryz.prog 9 #[vProg NA p.1.length nc AA p.2.length ac, vProg NB p.1.length nd AB p.2.length ad] wx fun e w' => e = .returned (.bool true) ∧ Below wx.heap.size wx w') := Lib.hid (fun wx hb => HSP.out NB nd AB ad wx (HPI1.out.step (Below.trans HB4.out (hb.mono HB4.out.size))) (HPI4.out.step hb))
  have HRTx : Hid (∀ wx, Below w4.heap.size w4 wx → Calls Tryz.prog 11 #[vProg NA p.1.length nc AA p.2.length ac] wx fun e w' => ∃ B d, e = .returned (.slice B p.2.length d) ∧ Below wx.heap.size wx w') := Lib.hid (fun wx hb => HRT.out wx (HPI1.out.step (Below.trans HB4.out (hb.mono HB4.out.size))))
  have HTTx : Hid (∀ wx, Below w4.heap.size w4 wx → Calls Tryz.prog 10 #[.slice TA Ts.length tc] wx fun e w' => ∃ B d, e = .returned (.slice B (Ts.length - 1) d) ∧ Below wx.heap.size wx w') := Lib.hid (fun wx hb => I_TokenTexts wx (RS.step hb HTS.out) HTP.out.2 HTP.out.1 HIN.out HLA.out)
  have x0 := HX4.out.cell 0
  have x1 := HX4.out.cell 1
  have xl := HX4.out.lt
  have y0 := HY4.out.cell 0
  have y1 := HY4.out.cell 1
  have yl := HY4.out.lt
  (try dsimp only [List.getElem?_cons_succ, List.getElem?_cons_zero] at x0 x1 y0 y1)
  have hw1 : IntKind.i64.wrap ((Ts.length : Int) - 1) = ((Ts.length - 1 : Nat) : Int) := by rw [show (Ts.length : Int) - 1 = ((Ts.length - 1 : Nat) : Int) by omega]; exact IntWalk.i64_in _ (by omega)
  have hw2 : ((((Ts.length - 1 : Nat) : Int)) == ((Ts.length - 1 : Nat) : Int)) = true := by simp
  have hw3 : (((p.2.length : Int)) == (p.2.length : Int)) = true := by simp
  clear hts hb4
  go_upto_region 10 with fail
  refine wp_region_held_drew (S := fun w' => w'.cell? ⟨w1.heap.size, 0, none⟩ = some (.slice NA p.1.length nc) ∧ w'.cell? ⟨w1.heap.size, 1, none⟩ = some (.slice AA p.2.length ac) ∧ w'.cell? ⟨w3.heap.size, 0, none⟩ = some (.slice NB p.1.length nd) ∧ w'.cell? ⟨w3.heap.size, 1, none⟩ = some (.slice AB p.2.length ad)) (by kernel_rfl) ?_ (fun hHeld1 => ?_)
  · exact ⟨x0, x1, y0, y1⟩
  (refine wpAnyH_take (i := 0) (v := ?_) rfl (by kernel_rfl) (by kernel_rfl) (by kernel_rfl) (fun _ _ _ h => h) (Or.inl ⟨by rfl, ?_⟩) (by assumption) ?_; rotate_left; focus (intro wz hSw; obtain ⟨q0, q1, q2, q3⟩ := hSw; go_simp; try with_reducible rfl)); (try simp only [List.getElem_toArray, List.getElem_cons_succ, List.getElem_cons_zero, Act.put, List.setIfInBounds_toArray, List.set_cons_zero, List.set_cons_succ])
  (refine wpAnyH_take (i := 1) (v := .bool true) rfl (by kernel_rfl) (by kernel_rfl) (by kernel_rfl) (fun _ _ _ h => h) (Or.inl ⟨by rfl, ?_⟩) (by assumption) ?_; focus (intro wz hSw; obtain ⟨q0, q1, q2, q3⟩ := hSw; go_simp; try with_reducible rfl)); (try simp only [List.getElem_toArray, List.getElem_cons_succ, List.getElem_cons_zero, Act.put, List.setIfInBounds_toArray, List.set_cons_zero, List.set_cons_succ])
  (refine wpAnyH_take (i := 2) (v := ?_) rfl (by kernel_rfl) (by kernel_rfl) (by kernel_rfl) (fun _ _ _ h => h) (Or.inl ⟨by rfl, ?_⟩) (by assumption) ?_; rotate_left; focus (intro wz hSw; obtain ⟨q0, q1, q2, q3⟩ := hSw; go_simp; try with_reducible rfl)); (try simp only [List.getElem_toArray, List.getElem_cons_succ, List.getElem_cons_zero, Act.put, List.setIfInBounds_toArray, List.set_cons_zero, List.set_cons_succ])
  (refine wpAnyH_take (i := 3) (v := ?_) rfl (by kernel_rfl) (by kernel_rfl) (by kernel_rfl) (fun _ _ _ h => h) (Or.inl ⟨by rfl, ?_⟩) (by assumption) ?_; rotate_left; focus (intro wz hSw; obtain ⟨q0, q1, q2, q3⟩ := hSw; go_simp; try with_reducible rfl)); (try simp only [List.getElem_toArray, List.getElem_cons_succ, List.getElem_cons_zero, Act.put, List.setIfInBounds_toArray, List.set_cons_zero, List.set_cons_succ])
  (refine wpAnyH_take (i := 4) (v := .bool true) rfl (by kernel_rfl) (by kernel_rfl) (by kernel_rfl) (fun _ _ _ h => h) (Or.inl ⟨by rfl, ?_⟩) (by assumption) ?_; focus (intro wz hSw; obtain ⟨q0, q1, q2, q3⟩ := hSw; go_simp; try with_reducible rfl)); (try simp only [List.getElem_toArray, List.getElem_cons_succ, List.getElem_cons_zero, Act.put, List.setIfInBounds_toArray, List.set_cons_zero, List.set_cons_succ])
  (refine wpAnyH_take (i := 5) (v := .bool true) rfl (by kernel_rfl) (by kernel_rfl) (by kernel_rfl) (fun _ _ _ h => h) (Or.inl ⟨by rfl, ?_⟩) (by assumption) ?_; focus (intro wz hSw; obtain ⟨q0, q1, q2, q3⟩ := hSw; go_simp; try with_reducible rfl)); (try simp only [List.getElem_toArray, List.getElem_cons_succ, List.getElem_cons_zero, Act.put, List.setIfInBounds_toArray, List.set_cons_zero, List.set_cons_succ])
  (refine wpAnyH_take (i := 6) (v := ?_) rfl (by kernel_rfl) (by kernel_rfl) (by kernel_rfl) (fun _ _ _ h => h) (Or.inl ⟨by rfl, ?_⟩) (by assumption) ?_; rotate_left; focus (intro wz hSw; obtain ⟨q0, q1, q2, q3⟩ := hSw; go_simp; try with_reducible rfl)); (try simp only [List.getElem_toArray, List.getElem_cons_succ, List.getElem_cons_zero, Act.put, List.setIfInBounds_toArray, List.set_cons_zero, List.set_cons_succ])
  (refine wpAnyH_take (i := 7) (v := ?_) rfl (by kernel_rfl) (by kernel_rfl) (by kernel_rfl) (fun _ _ _ h => h) (Or.inl ⟨by rfl, ?_⟩) (by assumption) ?_; rotate_left; focus (intro wz hSw; obtain ⟨q0, q1, q2, q3⟩ := hSw; go_simp; try with_reducible rfl)); (try simp only [List.getElem_toArray, List.getElem_cons_succ, List.getElem_cons_zero, Act.put, List.setIfInBounds_toArray, List.set_cons_zero, List.set_cons_succ])
  (refine wpAnyH_take (i := 8) (v := .bool true) rfl (by kernel_rfl) (by kernel_rfl) (by kernel_rfl) (fun _ _ _ h => h) (Or.inl ⟨by rfl, ?_⟩) (by assumption) ?_; focus (intro wz hSw; obtain ⟨q0, q1, q2, q3⟩ := hSw; go_simp; try with_reducible rfl)); (try simp only [List.getElem_toArray, List.getElem_cons_succ, List.getElem_cons_zero, Act.put, List.setIfInBounds_toArray, List.set_cons_zero, List.set_cons_succ])
  (refine wpAnyH_take (i := 9) (v := .bool true) rfl (by kernel_rfl) (by kernel_rfl) (by kernel_rfl) (fun _ _ _ h => h) (Or.inl ⟨by rfl, ?_⟩) (by assumption) ?_; focus (intro wz hSw; obtain ⟨q0, q1, q2, q3⟩ := hSw; go_simp; try with_reducible rfl)); (try simp only [List.getElem_toArray, List.getElem_cons_succ, List.getElem_cons_zero, Act.put, List.setIfInBounds_toArray, List.set_cons_zero, List.set_cons_succ])
  (refine wpAnyH_take (i := 10) (v := ?_) rfl (by kernel_rfl) (by kernel_rfl) (by kernel_rfl) (fun _ _ _ h => h) (Or.inl ⟨by rfl, ?_⟩) (by assumption) ?_; rotate_left; focus (intro wz hSw; obtain ⟨q0, q1, q2, q3⟩ := hSw; go_simp; try with_reducible rfl)); (try simp only [List.getElem_toArray, List.getElem_cons_succ, List.getElem_cons_zero, Act.put, List.setIfInBounds_toArray, List.set_cons_zero, List.set_cons_succ])
  (refine wpAnyH_take (i := 11) (v := ?_) rfl (by kernel_rfl) (by kernel_rfl) (by kernel_rfl) (fun _ _ _ h => h) (Or.inl ⟨by rfl, ?_⟩) (by assumption) ?_; rotate_left; focus (intro wz hSw; obtain ⟨q0, q1, q2, q3⟩ := hSw; go_simp; try with_reducible rfl)); (try simp only [List.getElem_toArray, List.getElem_cons_succ, List.getElem_cons_zero, Act.put, List.setIfInBounds_toArray, List.set_cons_zero, List.set_cons_succ])
  (refine wpAnyH_take (i := 12) (v := ?_) rfl (by kernel_rfl) (by kernel_rfl) (by kernel_rfl) (fun _ _ _ h => h) (Or.inl ⟨by rfl, ?_⟩) (by assumption) ?_; rotate_left; focus (intro wz hSw; obtain ⟨q0, q1, q2, q3⟩ := hSw; go_simp; try with_reducible rfl)); (try simp only [List.getElem_toArray, List.getElem_cons_succ, List.getElem_cons_zero, Act.put, List.setIfInBounds_toArray, List.set_cons_zero, List.set_cons_succ])
  refine wpAnyH_ready (rs := [13]) (by kernel_rfl) (by simp) ?_
  refine AllReadyH.cons rfl (fun K hK => ?_) AllReadyH.nil
  go_simp
  (go_at_call 9; (with_reducible refine (HSPx.out _ (by repeat (first | (with_reducible exact Below.refl _ _) | (with_reducible assumption) | ((with_reducible refine Below.alloc ?_ ?_ _); rotate_left; (first | omega | (simp <;> omega))) | ((with_reducible refine Below.setCell ?_ ?_ _); rotate_left; (first | omega | (simp <;> omega))) | (with_reducible refine below_drewN ?_ _) | (with_reducible refine Below.drew ?_) | ((with_reducible refine Below.step (by assumption) ?_ ?_); rotate_left; (first | omega | (simp <;> omega)))))).mono ?_); rintro e wA2 ⟨rfl, hbA2⟩; have hzA2 : w4.heap.size ≤ wA2.heap.size := hbA2.size)
  (try go_wp2_with fail)
  refine hK.out _ _ ?_ (fun hHeld2 => ?_)
  · exact ⟨(hbA2.cell (p := ⟨w1.heap.size, 0, none⟩) (by first | omega | (simp <;> omega))).trans x0, (hbA2.cell (p := ⟨w1.heap.size, 1, none⟩) (by first | omega | (simp <;> omega))).trans x1, (hbA2.cell (p := ⟨w3.heap.size, 0, none⟩) (by first | omega | (simp <;> omega))).trans y0, (hbA2.cell (p := ⟨w3.heap.size, 1, none⟩) (by first | omega | (simp <;> omega))).trans y1⟩
  clear hK K
  obtain ⟨x0, x1, y0, y1⟩ := id hHeld2
  (try simp only [List.getElem_toArray, List.getElem_cons_succ, List.getElem_cons_zero, Act.put, List.setIfInBounds_toArray, List.set_cons_zero, List.set_cons_succ])
  (refine wpAnyH_take (i := 14) (v := .bool true) rfl (by kernel_rfl) (by kernel_rfl) (by kernel_rfl) (fun _ _ _ h => h) (Or.inl ⟨by rfl, ?_⟩) (by assumption) ?_; focus (intro wz hSw; obtain ⟨q0, q1, q2, q3⟩ := hSw; go_simp; try with_reducible rfl)); (try simp only [List.getElem_toArray, List.getElem_cons_succ, List.getElem_cons_zero, Act.put, List.setIfInBounds_toArray, List.set_cons_zero, List.set_cons_succ])
  (refine wpAnyH_take (i := 15) (v := ?_) rfl (by kernel_rfl) (by kernel_rfl) (by kernel_rfl) (fun _ _ _ h => h) (Or.inl ⟨by rfl, ?_⟩) (by assumption) ?_; rotate_left; focus (intro wz hSw; obtain ⟨q0, q1, q2, q3⟩ := hSw; go_simp; try with_reducible rfl)); (try simp only [List.getElem_toArray, List.getElem_cons_succ, List.getElem_cons_zero, Act.put, List.setIfInBounds_toArray, List.set_cons_zero, List.set_cons_succ])
  (refine wpAnyH_take (i := 16) (v := ?_) rfl (by kernel_rfl) (by kernel_rfl) (by kernel_rfl) (fun _ _ _ h => h) (Or.inl ⟨by rfl, ?_⟩) (by assumption) ?_; rotate_left; focus (intro wz hSw; obtain ⟨q0, q1, q2, q3⟩ := hSw; go_simp; try with_reducible rfl)); (try simp only [List.getElem_toArray, List.getElem_cons_succ, List.getElem_cons_zero, Act.put, List.setIfInBounds_toArray, List.set_cons_zero, List.set_cons_succ])
  (refine wpAnyH_take (i := 19) (v := ?_) rfl (by kernel_rfl) (by kernel_rfl) (by kernel_rfl) (fun _ _ _ h => h) (Or.inl ⟨by rfl, ?_⟩) (by assumption) ?_; rotate_left; focus (intro wz hSw; obtain ⟨q0, q1, q2, q3⟩ := hSw; go_simp; try with_reducible rfl)); (try simp only [List.getElem_toArray, List.getElem_cons_succ, List.getElem_cons_zero, Act.put, List.setIfInBounds_toArray, List.set_cons_zero, List.set_cons_succ])
  (refine wpAnyH_take (i := 20) (v := ?_) rfl (by kernel_rfl) (by kernel_rfl) (by kernel_rfl) (fun _ _ _ h => h) (Or.inl ⟨by rfl, ?_⟩) (by assumption) ?_; rotate_left; focus (intro wz hSw; obtain ⟨q0, q1, q2, q3⟩ := hSw; go_simp; try with_reducible rfl)); (try simp only [List.getElem_toArray, List.getElem_cons_succ, List.getElem_cons_zero, Act.put, List.setIfInBounds_toArray, List.set_cons_zero, List.set_cons_succ])
  (refine wpAnyH_take (i := 21) (v := ?_) rfl (by kernel_rfl) (by kernel_rfl) (by kernel_rfl) (fun _ _ _ h => h) (Or.inl ⟨by rfl, ?_⟩) (by assumption) ?_; rotate_left; focus (intro wz hSw; obtain ⟨q0, q1, q2, q3⟩ := hSw; go_simp; try with_reducible rfl)); (try simp only [List.getElem_toArray, List.getElem_cons_succ, List.getElem_cons_zero, Act.put, List.setIfInBounds_toArray, List.set_cons_zero, List.set_cons_succ])
  refine wpAnyH_ready (rs := [17]) (by kernel_rfl) (by simp) ?_
  refine AllReadyH.cons rfl (fun K hK => ?_) AllReadyH.nil
  go_simp
  (go_at_call 10; (with_reducible refine (HTTx.out _ (by repeat (first | (with_reducible exact Below.refl _ _) | (with_reducible assumption) | ((with_reducible refine Below.alloc ?_ ?_ _); rotate_left; (first | omega | (simp <;> omega))) | ((with_reducible refine Below.setCell ?_ ?_ _); rotate_left; (first | omega | (simp <;> omega))) | (with_reducible refine below_drewN ?_ _) | (with_reducible refine Below.drew ?_) | ((with_reducible refine Below.step (by assumption) ?_ ?_); rotate_left; (first | omega | (simp <;> omega)))))).mono ?_); rintro e wA3 ⟨B9, d9, rfl, hbA3⟩; have hzA3 := hbA3.size)
  (try go_wp2_with fail)
  refine hK.out _ _ ?_ (fun hHeld3 => ?_)
  · exact ⟨(hbA3.cell (p := ⟨w1.heap.size, 0, none⟩) (by first | omega | (simp <;> omega))).trans x0, (hbA3.cell (p := ⟨w1.heap.size, 1, none⟩) (by first | omega | (simp <;> omega))).trans x1, (hbA3.cell (p := ⟨w3.heap.size, 0, none⟩) (by first | omega | (simp <;> omega))).trans y0, (hbA3.cell (p := ⟨w3.heap.size, 1, none⟩) (by first | omega | (simp <;> omega))).trans y1⟩
  clear hK K
  obtain ⟨x0, x1, y0, y1⟩ := id hHeld3
  (try simp only [List.getElem_toArray, List.getElem_cons_succ, List.getElem_cons_zero, Act.put, List.setIfInBounds_toArray, List.set_cons_zero, List.set_cons_succ])
  (refine wpAnyH_take (i := 18) (v := ?_) rfl (by kernel_rfl) (by kernel_rfl) (by kernel_rfl) (fun _ _ _ h => h) (Or.inl ⟨by rfl, ?_⟩) (by assumption) ?_; rotate_left; focus (intro wz hSw; obtain ⟨q0, q1, q2, q3⟩ := hSw; go_simp; try with_reducible rfl)); (try simp only [List.getElem_toArray, List.getElem_cons_succ, List.getElem_cons_zero, Act.put, List.setIfInBounds_toArray, List.set_cons_zero, List.set_cons_succ])
  (refine wpAnyH_take (i := 22) (v := .bool true) rfl (by kernel_rfl) (by kernel_rfl) (by kernel_rfl) (fun _ _ _ h => h) (Or.inl ⟨by rfl, ?_⟩) (by assumption) ?_; focus (intro wz hSw; obtain ⟨q0, q1, q2, q3⟩ := hSw; go_simp; try with_reducible rfl)); (try simp only [List.getElem_toArray, List.getElem_cons_succ, List.getElem_cons_zero, Act.put, List.setIfInBounds_toArray, List.set_cons_zero, List.set_cons_succ])
  (refine wpAnyH_take (i := 23) (v := .bool true) rfl (by kernel_rfl) (by kernel_rfl) (by kernel_rfl) (fun _ _ _ h => h) (Or.inl ⟨by rfl, ?_⟩) (by assumption) ?_; focus (intro wz hSw; obtain ⟨q0, q1, q2, q3⟩ := hSw; go_simp; try with_reducible rfl)); (try simp only [List.getElem_toArray, List.getElem_cons_succ, List.getElem_cons_zero, Act.put, List.setIfInBounds_toArray, List.set_cons_zero, List.set_cons_succ])
  (refine wpAnyH_take (i := 24) (v := ?_) rfl (by kernel_rfl) (by kernel_rfl) (by kernel_rfl) (fun _ _ _ h => h) (Or.inl ⟨by rfl, ?_⟩) (by assumption) ?_; rotate_left; focus (intro wz hSw; obtain ⟨q0, q1, q2, q3⟩ := hSw; go_simp; try with_reducible rfl)); (try simp only [List.getElem_toArray, List.getElem_cons_succ, List.getElem_cons_zero, Act.put, List.setIfInBounds_toArray, List.set_cons_zero, List.set_cons_succ])
  (refine wpAnyH_take (i := 25) (v := ?_) rfl (by kernel_rfl) (by kernel_rfl) (by kernel_rfl) (fun _ _ _ h => h) (Or.inl ⟨by rfl, ?_⟩) (by assumption) ?_; rotate_left; focus (intro wz hSw; obtain ⟨q0, q1, q2, q3⟩ := hSw; go_simp; try with_reducible rfl)); (try simp only [List.getElem_toArray, List.getElem_cons_succ, List.getElem_cons_zero, Act.put, List.setIfInBounds_toArray, List.set_cons_zero, List.set_cons_succ])
  (refine wpAnyH_take (i := 28) (v := ?_) rfl (by kernel_rfl) (by kernel_rfl) (by kernel_rfl) (fun _ _ _ h => h) (Or.inl ⟨by rfl, ?_⟩) (by assumption) ?_; rotate_left; focus (intro wz hSw; obtain ⟨q0, q1, q2, q3⟩ := hSw; go_simp; try with_reducible rfl)); (try simp only [List.getElem_toArray, List.getElem_cons_succ, List.getElem_cons_zero, Act.put, List.setIfInBounds_toArray, List.set_cons_zero, List.set_cons_succ])
  (refine wpAnyH_take (i := 29) (v := ?_) rfl (by kernel_rfl) (by kernel_rfl) (by kernel_rfl) (fun _ _ _ h => h) (Or.inl ⟨by rfl, ?_⟩) (by assumption) ?_; rotate_left; focus (intro wz hSw; obtain ⟨q0, q1, q2, q3⟩ := hSw; go_simp; try with_reducible rfl)); (try simp only [List.getElem_toArray, List.getElem_cons_succ, List.getElem_cons_zero, Act.put, List.setIfInBounds_toArray, List.set_cons_zero, List.set_cons_succ])
  (refine wpAnyH_take (i := 30) (v := ?_) rfl (by kernel_rfl) (by kernel_rfl) (by kernel_rfl) (fun _ _ _ h => h) (Or.inl ⟨by rfl, ?_⟩) (by assumption) ?_; rotate_left; focus (intro wz hSw; obtain ⟨q0, q1, q2, q3⟩ := hSw; go_simp; try with_reducible rfl)); (try simp only [List.getElem_toArray, List.getElem_cons_succ, List.getElem_cons_zero, Act.put, List.setIfInBounds_toArray, List.set_cons_zero, List.set_cons_succ])
  refine wpAnyH_ready (rs := [26]) (by kernel_rfl) (by simp) ?_
  refine AllReadyH.cons rfl (fun K hK => ?_) AllReadyH.nil
  go_simp
  (go_at_call 11; (with_reducible refine (HRTx.out _ (by repeat (first | (with_reducible exact Below.refl _ _) | (with_reducible assumption) | ((with_reducible refine Below.alloc ?_ ?_ _); rotate_left; (first | omega | (simp <;> omega))) | ((with_reducible refine Below.setCell ?_ ?_ _); rotate_left; (first | omega | (simp <;> omega))) | (with_reducible refine below_drewN ?_ _) | (with_reducible refine Below.drew ?_) | ((with_reducible refine Below.step (by assumption) ?_ ?_); rotate_left; (first | omega | (simp <;> omega)))))).mono ?_); rintro e wA4 ⟨B8, d8, rfl, hbA4⟩; have hzA4 := hbA4.size)
  (try go_wp2_with fail)
  refine hK.out _ _ ?_ (fun hHeld4 => ?_)
  · exact ⟨(hbA4.cell (p := ⟨w1.heap.size, 0, none⟩) (by first | omega | (simp <;> omega))).trans x0, (hbA4.cell (p := ⟨w1.heap.size, 1, none⟩) (by first | omega | (simp <;> omega))).trans x1, (hbA4.cell (p := ⟨w3.heap.size, 0, none⟩) (by first | omega | (simp <;> omega))).trans y0, (hbA4.cell (p := ⟨w3.heap.size, 1, none⟩) (by first | omega | (simp <;> omega))).trans y1⟩
  clear hK K
  obtain ⟨x0, x1, y0, y1⟩ := id hHeld4
  (try simp only [List.getElem_toArray, List.getElem_cons_succ, List.getElem_cons_zero, Act.put, List.setIfInBounds_toArray, List.set_cons_zero, List.set_cons_succ])
  (refine wpAnyH_take (i := 27) (v := ?_) rfl (by kernel_rfl) (by kernel_rfl) (by kernel_rfl) (fun _ _ _ h => h) (Or.inl ⟨by rfl, ?_⟩) (by assumption) ?_; rotate_left; focus (intro wz hSw; obtain ⟨q0, q1, q2, q3⟩ := hSw; go_simp; try with_reducible rfl)); (try simp only [List.getElem_toArray, List.getElem_cons_succ, List.getElem_cons_zero, Act.put, List.setIfInBounds_toArray, List.set_cons_zero, List.set_cons_succ])
  (refine wpAnyH_take (i := 31) (v := .bool true) rfl (by kernel_rfl) (by kernel_rfl) (by kernel_rfl) (fun _ _ _ h => h) (Or.inl ⟨by rfl, ?_⟩) (by assumption) ?_; focus (intro wz hSw; obtain ⟨q0, q1, q2, q3⟩ := hSw; go_simp; try with_reducible rfl)); (try simp only [List.getElem_toArray, List.getElem_cons_succ, List.getElem_cons_zero, Act.put, List.setIfInBounds_toArray, List.set_cons_zero, List.set_cons_succ])
  (refine wpAnyH_take (i := 32) (v := .bool true) rfl (by kernel_rfl) (by kernel_rfl) (by kernel_rfl) (fun _ _ _ h => h) (Or.inl ⟨by rfl, ?_⟩) (by assumption) ?_; focus (intro wz hSw; obtain ⟨q0, q1, q2, q3⟩ := hSw; go_simp; try with_reducible rfl)); (try simp only [List.getElem_toArray, List.getElem_cons_succ, List.getElem_cons_zero, Act.put, List.setIfInBounds_toArray, List.set_cons_zero, List.set_cons_succ])
  (refine wpAnyH_take (i := 33) (v := ?_) rfl (by kernel_rfl) (by kernel_rfl) (by kernel_rfl) (fun _ _ _ h => h) (Or.inl ⟨by rfl, ?_⟩) (by assumption) ?_; rotate_left; focus (intro wz hSw; obtain ⟨q0, q1, q2, q3⟩ := hSw; go_simp; try with_reducible rfl)); (try simp only [List.getElem_toArray, List.getElem_cons_succ, List.getElem_cons_zero, Act.put, List.setIfInBounds_toArray, List.set_cons_zero, List.set_cons_succ])
  refine wpAnyH_done (by kernel_rfl) ?_ _
  go_wp2_with fail
  go_ret
  exact ⟨rfl, (Below.trans HB1.out (Below.mono (by repeat (first | (with_reducible exact Below.refl _ _) | (with_reducible exact HB4.out) | (with_reducible assumption) | ((with_reducible refine Below.alloc ?_ ?_ _); rotate_left; (first | omega | (simp <;> omega))) | ((with_reducible refine Below.setCell ?_ ?_ _); rotate_left; (first | omega | (simp <;> omega))) | (with_reducible refine below_drewN ?_ _) | (with_reducible refine Below.drew ?_) | ((with_reducible refine Below.step (by assumption) ?_ ?_); rotate_left; (first | omega | (simp <;> omega))))) HB1.out.size))⟩
/-- A start that fits: the tables as their initialisers lay them, and the handle of 'error'. -/
def layCellsT (cs : Array Value) : Obj → Obj
  | .cells _ t frozen => .cells cs t frozen
  | o => o
def litCellsT : DataW Unit → Array Value
  | .agg l => (l.map fun | .lit (.int k z) => Value.int k z | _ => .nilIface).toArray
  | _ => #[]
noncomputable def laidWorldHT (os : Os) : World :=
  let w0 := World.holding Tryz.prog os ⟨#[], #[], []⟩
  { w0 with heap := (((w0.heap.modify 2 (layCellsT (litCellsT Rows.laid_internal_strconv_uint64pow10))).modify 3 (layCellsT (litCellsT Rows.laid_math_bits_deBruijn32tab))).modify 4 (layCellsT (litCellsT Rows.laid_math_bits_deBruijn64tab))).modify 0 (layCellsT #[.iface 135 (.agg #[.pointer (some ⟨5, 50, none⟩)])]) }
def fnParseLaid : List (String × DataW Unit) := [("math/bits.deBruijn32tab", Rows.laid_math_bits_deBruijn32tab), ("math/bits.deBruijn64tab", Rows.laid_math_bits_deBruijn64tab), ("internal/strconv.uint64pow10", Rows.laid_internal_strconv_uint64pow10), ("errors.errorType", Rows.laid_errors_errorType)]
theorem FnParse_walk : LawWalkH fnParseLaid 3 [22] := by
  intro H enc W base args ds ps hA hval hlt hsz hL hsh
  obtain ⟨v0, rfl, h0⟩ := args1 hA hval
  obtain ⟨A, c, l, rfl, h⟩ := h0.bytes
  exact L_FnParse W h (handle_of_laid (laidMetH.filter (fun x => x.1 == "errors.errorType") hL)) (tab_of_laidH hL)
end Go.Proofs.YtnlbojckobgjpaaGreatDoor
