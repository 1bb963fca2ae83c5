/- MADE BY PROGRAM (genprec.py). ParseRecord, of the reference and of the program. -/
import Derived.Test.YtlepnjahpmlccaaDoorRecS
namespace Go.Proofs.YtlepnjahpmlccaaDoor
open Go.RowKit Go.Lib
set_option linter.unusedVariables false
set_option maxRecDepth 100000
theorem rec_parts {t : List UInt8} {i : Int} {l : List Int} (h : validR i l = true) (e : fmtR i l = t) : linesOf t = [bodyR i l] ∧ trimSuffix t [10] = bodyR i l ∧ splitB 32 (bodyR i l) = [[116, 105, 108, 101], fmtI i, fmtI (hashF (i :: l)), fmtL l] ∧ parseI (fmtI i) = some i ∧ parseL (fmtL l) = some l := by
  subst e
  refine ⟨?_, fmtR_trim h, body_words i l, parseI_fmtI (by have := (validR_all h).1; unfold inNum; omega), fmtL_parse h⟩
  rw [linesOf_end (q := [bodyR i l]) (z := []) (fmtR_lines h), if_pos rfl]
theorem rec_lines {t : List UInt8} (h : (linesOf t).length ≠ 1) : parseR t = none :=
  parseR_none (fun i l hv e => by rw [(rec_parts hv e).1] at h; exact h rfl)
theorem rec_words {t x : List UInt8} (hx : linesOf t = [x]) (h : (splitB 32 x).length ≠ 4) : parseR t = none :=
  parseR_none (fun i l hv e => by
    obtain ⟨h1, _, h2, _⟩ := rec_parts hv e
    rw [hx] at h1
    obtain rfl := (List.cons.inj h1).1
    rw [h2] at h; exact h rfl)
theorem rec_miss {t x a b c d : List UInt8} (hx : linesOf t = [x]) (hw : splitB 32 x = [a, b, c, d]) (h : ¬ (t ≠ [] ∧ fmtR ((parseI b).getD 0) ((parseL d).getD []) = t)) : parseR t = none :=
  parseR_none (fun i l hv e => by
    obtain ⟨h1, _, h2, h3, h4⟩ := rec_parts hv e
    rw [hx] at h1
    obtain rfl := (List.cons.inj h1).1
    rw [hw] at h2
    simp only [List.cons.injEq, and_true] at h2
    obtain ⟨_, rfl, _, rfl⟩ := h2
    rw [h3, h4] at h
    exact h ⟨by rw [← e]; exact fmtR_ne hv, e⟩)
theorem rec_wordsI {t : List UInt8} (h : (splitB 32 (trimSuffix t [10])).length ≠ 4) : parseR t = none :=
  parseR_none (fun i l hv e => by
    obtain ⟨_, h1, h2, _⟩ := rec_parts hv e
    rw [h1, h2] at h; exact h rfl)
theorem rec_ne {t a b c d : List UInt8} (hw : splitB 32 (trimSuffix t [10]) = [a, b, c, d]) : t ≠ [] := by
  rintro rfl
  have e : trimSuffix [] [10] = [] := rfl
  rw [e] at hw
  cases hw
theorem rec_missI {t a b c d : List UInt8} (hw : splitB 32 (trimSuffix t [10]) = [a, b, c, d]) (h : ¬ ((parseI b).isSome = true ∧ (parseL d).isSome = true ∧ fmtR ((parseI b).getD 0) ((parseL d).getD []) = t)) : parseR t = none :=
  parseR_none (fun i l hv e => by
    obtain ⟨_, h1, h2, h3, h4⟩ := rec_parts hv e
    rw [h1, h2] at hw
    simp only [List.cons.injEq, and_true] at hw
    obtain ⟨_, rfl, _, rfl⟩ := hw
    rw [h3, h4] at h
    exact h ⟨rfl, rfl, e⟩)
/-- What ParseRecord leaves. -/
def OutR (r : Option (Int × List Int)) (w : World) (e : Ending) (w' : World) : Prop := MadeLogged (fun s0 => .tuple #[vLogged (r.getD (0, [])).1 s0, .bool r.isSome]) (r.getD (0, [])).2.length (ints (r.getD (0, [])).2) w e w'
theorem OutR.no {w w' : World} (hb : Below w.heap.size w w') : OutR none w (.returned (.tuple #[vLogged 0 (.slice none 0 0), .bool false])) w' :=
  ⟨none, 0, rfl, OwnS.none_ _ _ _, fun x hx => absurd hx (by simp [gOf]), hb⟩
theorem OutR.hit {w w' : World} {i : Int} {l : List Int} {A : Option Addr} {c : Nat} (h : OwnS w' 1 A l.length c 3 (ints l)) (hg : ∀ x, x ∈ gOf A → w.heap.size ≤ x) (hb : Below w.heap.size w w') : OutR (some (i, l)) w (.returned (.tuple #[vLogged i (.slice A l.length c), .bool true])) w' :=
  ⟨A, c, rfl, h, hg, hb⟩
set_option maxHeartbeats 8000000 in
theorem S_ParseRecord (t : List UInt8) (w : World) (hlim : t.length ≤ 1048576) :
    Calls Tryd.prog 19 #[str t] w (OutR (parseR t) w) := by
  obtain ⟨ls, hls⟩ : ∃ ls, linesOf t = ls := ⟨_, rfl⟩
  have HSL : Hid (∀ wx, Calls Tryd.prog 44 #[str t] wx (OutStrs ls wx)) := Lib.hid (fun wx => by have := S_SplitLines t wx hlim; rwa [hls] at this)
  have hlsl : ls.length ≤ 1048577 := by
    have h1 := splitB_len 10 t
    rw [← hls]; unfold linesOf
    split
    · rw [List.length_dropLast]; omega
    · omega
  by_cases h1 : ls.length = 1
  case neg =>
    have HR : Hid (parseR t = none) := Lib.hid (rec_lines (by rw [hls]; exact h1))
    have h1i : ¬ (ls.length : Int) = 1 := by omega
    have h1b : ((ls.length : Int) == 1) = false := by simpa using h1i
    go_enter Tryd.func19, Tryd.ntmps19
    go_wp2_with fail
    refine (HSL.out _).mono ?_
    rintro e w1 ⟨P, pc, rfl, hrs, hpg, hb⟩
    have hz := hb.size
    (try simp at hz)
    have bA : Below w.heap.size w w1 := (by repeat (first | (with_reducible exact Below.refl _ _) | (with_reducible assumption) | ((with_reducible refine Below.alloc ?_ ?_ _); rotate_left; (first | omega | (simp <;> omega))) | ((with_reducible refine Below.setCell ?_ ?_ _); rotate_left; (first | omega | (simp <;> omega))) | (with_reducible refine below_drewN ?_ _) | (with_reducible refine Below.drew ?_) | ((with_reducible refine Below.step (by assumption) ?_ ?_); rotate_left; (first | omega | (simp <;> omega)))))
    have ac0 := fun o => hb.cell (p := ⟨w.heap.size, o, none⟩) (by first | omega | (simp <;> omega))
    have af0 := fun o => hb.frozen (p := ⟨w.heap.size, o, none⟩) (by first | omega | (simp <;> omega))
    have az0 : w.heap.size < w1.heap.size := by first | omega | (simp <;> omega)
    clear hb
    go_wp2_with fail
    exact bodyPost_ret (v := .tuple #[vLogged 0 (.slice none 0 0), .bool false]) (by simp [results, Tryd.results19, go_sem, *]) rfl (by rw [HR.out]; exact OutR.no (by repeat (first | (with_reducible exact Below.refl _ _) | (with_reducible assumption) | ((with_reducible refine Below.alloc ?_ ?_ _); rotate_left; (first | omega | (simp <;> omega))) | ((with_reducible refine Below.setCell ?_ ?_ _); rotate_left; (first | omega | (simp <;> omega))) | (with_reducible refine below_drewN ?_ _) | (with_reducible refine Below.drew ?_) | ((with_reducible refine Below.step (by assumption) ?_ ?_); rotate_left; (first | omega | (simp <;> omega))))))
  case pos =>
    obtain ⟨x, rfl⟩ : ∃ x, ls = [x] := by
      match ls, h1 with
      | [x], _ => exact ⟨x, rfl⟩
    have hxl : x.length ≤ 1048576 := by
      have hm : x ∈ splitB 10 t := by
        have h2 := hls
        unfold linesOf at h2
        split at h2
        · exact List.dropLast_subset _ (by rw [h2]; simp)
        · rw [h2]; simp
      exact Nat.le_trans (splitB_mem hm) hlim
    obtain ⟨ws, hws⟩ : ∃ ws, splitB 32 x = ws := ⟨_, rfl⟩
    have HSA : Hid (∀ wx, Calls Tryd.prog 45 #[str x, .string ⟨#[32]⟩] wx (OutStrs ws wx)) := Lib.hid (fun wx => by have := S_SplitAny 32 x wx hxl; rwa [hws] at this)
    by_cases h4 : ws.length = 4
    case neg =>
      have HR : Hid (parseR t = none) := Lib.hid (rec_words hls (by rw [hws]; exact h4))
      have h4i : ¬ (ws.length : Int) = 4 := by omega
      have h4b : ((ws.length : Int) == 4) = false := by simpa using h4i
      go_enter Tryd.func19, Tryd.ntmps19
      go_wp2_with fail
      refine (HSL.out _).mono ?_
      rintro e w1 ⟨P, pc, rfl, hrs, hpg, hb⟩
      have hz := hb.size
      (try simp at hz)
      have bA : Below w.heap.size w w1 := (by repeat (first | (with_reducible exact Below.refl _ _) | (with_reducible assumption) | ((with_reducible refine Below.alloc ?_ ?_ _); rotate_left; (first | omega | (simp <;> omega))) | ((with_reducible refine Below.setCell ?_ ?_ _); rotate_left; (first | omega | (simp <;> omega))) | (with_reducible refine below_drewN ?_ _) | (with_reducible refine Below.drew ?_) | ((with_reducible refine Below.step (by assumption) ?_ ?_); rotate_left; (first | omega | (simp <;> omega)))))
      obtain ⟨b, off, rfl, hbh, hcell⟩ := hrs.open_.2.2 (by simp)
      have c1 : w1.cell? ⟨b, off, none⟩ = some (str x) := hcell 0 (by simp)
      clear hcell hrs hpg
      have ac0 := fun o => hb.cell (p := ⟨w.heap.size, o, none⟩) (by first | omega | (simp <;> omega))
      have af0 := fun o => hb.frozen (p := ⟨w.heap.size, o, none⟩) (by first | omega | (simp <;> omega))
      have az0 : w.heap.size < w1.heap.size := by first | omega | (simp <;> omega)
      clear hb
      go_wp2_with fail
      refine (HSA.out _).mono ?_
      rintro e w2 ⟨Q, qc, rfl, hrs, hpg, hb⟩
      have hz2 := hb.size
      (try simp at hz2)
      have bB : Below w.heap.size w w2 := (by repeat (first | (with_reducible exact Below.refl _ _) | (with_reducible assumption) | ((with_reducible refine Below.alloc ?_ ?_ _); rotate_left; (first | omega | (simp <;> omega))) | ((with_reducible refine Below.setCell ?_ ?_ _); rotate_left; (first | omega | (simp <;> omega))) | (with_reducible refine below_drewN ?_ _) | (with_reducible refine Below.drew ?_) | ((with_reducible refine Below.step (by assumption) ?_ ?_); rotate_left; (first | omega | (simp <;> omega)))))
      have bc0 := fun o => hb.cell (p := ⟨w.heap.size, o, none⟩) (by first | omega | (simp <;> omega))
      have bf0 := fun o => hb.frozen (p := ⟨w.heap.size, o, none⟩) (by first | omega | (simp <;> omega))
      have bz0 : w.heap.size < w2.heap.size := by first | omega | (simp <;> omega)
      clear hb
      go_wp2_with fail
      exact bodyPost_ret (v := .tuple #[vLogged 0 (.slice none 0 0), .bool false]) (by simp [results, Tryd.results19, go_sem, *]) rfl (by rw [HR.out]; exact OutR.no (by repeat (first | (with_reducible exact Below.refl _ _) | (with_reducible assumption) | ((with_reducible refine Below.alloc ?_ ?_ _); rotate_left; (first | omega | (simp <;> omega))) | ((with_reducible refine Below.setCell ?_ ?_ _); rotate_left; (first | omega | (simp <;> omega))) | (with_reducible refine below_drewN ?_ _) | (with_reducible refine Below.drew ?_) | ((with_reducible refine Below.step (by assumption) ?_ ?_); rotate_left; (first | omega | (simp <;> omega))))))
    case pos =>
      obtain ⟨wa, wb, wc, wd, rfl⟩ : ∃ a b c d, ws = [a, b, c, d] := by
        match ws, h4 with
        | [a, b, c, d], _ => exact ⟨a, b, c, d, rfl⟩
      have hbl : wb.length ≤ 1048576 := Nat.le_trans (splitB_mem (b := 32) (by rw [hws]; simp)) hxl
      have hdl : wd.length ≤ 1048576 := Nat.le_trans (splitB_mem (b := 32) (by rw [hws]; simp)) hxl
      have HM : Hid (¬ (t ≠ [] ∧ fmtR ((parseI wb).getD 0) ((parseL wd).getD []) = t) → parseR t = none) := Lib.hid (rec_miss hls hws)
      obtain ⟨vi, hvi⟩ : ∃ vi, (parseI wb).getD 0 = vi := ⟨_, rfl⟩
      obtain ⟨vl, hvl⟩ : ∃ vl, (parseL wd).getD [] = vl := ⟨_, rfl⟩
      obtain ⟨bi, hbi⟩ : ∃ bi, (parseI wb).isSome = bi := ⟨_, rfl⟩
      obtain ⟨bl, hbl2⟩ : ∃ bl, (parseL wd).isSome = bl := ⟨_, rfl⟩
      have HPI : Hid (∀ wx, Calls Tryd.prog 46 #[str wb] wx fun e w' => e = .returned (.tuple #[.int .i64 vi, .bool bi]) ∧ Below wx.heap.size wx w') := Lib.hid (fun wx => by have := S_ParseInt wb wx (by omega); rw [show vPI (parseI wb) = .tuple #[.int .i64 vi, .bool bi] by rw [← hvi, ← hbi]] at this; exact this)
      have HPL : Hid (∀ wx, Calls Tryd.prog 47 #[str wd] wx fun e w' => ∃ A c, e = .returned (.tuple #[.slice A vl.length c, .bool bl]) ∧ OwnS w' 1 A vl.length c 3 (ints vl) ∧ (∀ x, x ∈ gOf A → wx.heap.size ≤ x) ∧ Below wx.heap.size wx w') := Lib.hid (fun wx => by have h0 := S_ParseInts wd wx (by omega); unfold OutPL at h0; rw [hvl, hbl2] at h0; exact h0)
      rw [hvi, hvl] at HM
      clear hvi hvl hbi hbl2 hbl hdl hws hls hxl h4 h1 hlsl
      obtain ⟨ft, hft⟩ : ∃ ft, fmtR vi vl = ft := ⟨_, rfl⟩
      have HFR : Hid (∀ (wx : World) (A : Option Addr) (c : Nat), RS wx 1 A vl.length c (ints vl) → Calls Tryd.prog 15 #[vLogged vi (.slice A vl.length c)] wx fun e w' => e = .returned (str ft) ∧ Below wx.heap.size wx w') := Lib.hid (fun wx A c h => by have := S_FormatRecord (i := vi) wx h; rwa [hft] at this)
      have hcases : (ft = [] ∧ parseR t = none) ∨ (ft.isEmpty = false ∧ (ft == t) = true ∧ parseR t = some (vi, vl)) ∨ (ft.isEmpty = false ∧ (ft == t) = false ∧ parseR t = none) := by
        by_cases e0 : ft = []
        · exact .inl ⟨e0, HM.out (fun h => h.1 (by rw [← h.2, hft, e0]))⟩
        · have e1 : ft.isEmpty = false := by cases ft with | nil => exact absurd rfl e0 | cons => rfl
          by_cases e2 : ft = t
          · exact .inr (.inl ⟨e1, by simpa using e2, fmtR_hit (by rw [← e2]; exact e0) (hft.trans e2)⟩)
          · exact .inr (.inr ⟨e1, by simpa using e2, HM.out (fun h => e2 (hft.symm.trans h.2))⟩)
      clear HM hft
      rcases hcases with ⟨rfl, hr⟩ | ⟨e1, e2, hr⟩ | ⟨e1, e2, hr⟩
      · have HR := Lib.hid hr
        clear hr
        go_enter Tryd.func19, Tryd.ntmps19
        go_wp2_with fail
        refine (HSL.out _).mono ?_
        rintro e w1 ⟨P, pc, rfl, hrs, hpg, hb⟩
        have hz := hb.size
        (try simp at hz)
        have bA : Below w.heap.size w w1 := (by repeat (first | (with_reducible exact Below.refl _ _) | (with_reducible assumption) | ((with_reducible refine Below.alloc ?_ ?_ _); rotate_left; (first | omega | (simp <;> omega))) | ((with_reducible refine Below.setCell ?_ ?_ _); rotate_left; (first | omega | (simp <;> omega))) | (with_reducible refine below_drewN ?_ _) | (with_reducible refine Below.drew ?_) | ((with_reducible refine Below.step (by assumption) ?_ ?_); rotate_left; (first | omega | (simp <;> omega)))))
        obtain ⟨b, off, rfl, hbh, hcell⟩ := hrs.open_.2.2 (by simp)
        have c1 : w1.cell? ⟨b, off, none⟩ = some (str x) := hcell 0 (by simp)
        clear hcell hrs hpg
        have ac0 := fun o => hb.cell (p := ⟨w.heap.size, o, none⟩) (by first | omega | (simp <;> omega))
        have af0 := fun o => hb.frozen (p := ⟨w.heap.size, o, none⟩) (by first | omega | (simp <;> omega))
        have az0 : w.heap.size < w1.heap.size := by first | omega | (simp <;> omega)
        clear hb
        go_wp2_with fail
        refine (HSA.out _).mono ?_
        rintro e w2 ⟨Q, qc, rfl, hrs, hpg, hb⟩
        have hz2 := hb.size
        (try simp at hz2)
        have bB : Below w.heap.size w w2 := (by repeat (first | (with_reducible exact Below.refl _ _) | (with_reducible assumption) | ((with_reducible refine Below.alloc ?_ ?_ _); rotate_left; (first | omega | (simp <;> omega))) | ((with_reducible refine Below.setCell ?_ ?_ _); rotate_left; (first | omega | (simp <;> omega))) | (with_reducible refine below_drewN ?_ _) | (with_reducible refine Below.drew ?_) | ((with_reducible refine Below.step (by assumption) ?_ ?_); rotate_left; (first | omega | (simp <;> omega)))))
        obtain ⟨g, go, rfl, hgh, hcell⟩ := hrs.open_.2.2 (by simp)
        have k1 : w2.cell? ⟨g, go + 1, none⟩ = some (str wb) := hcell 1 (by simp)
        have k3 : w2.cell? ⟨g, go + 3, none⟩ = some (str wd) := hcell 3 (by simp)
        clear hcell hrs hpg
        have bc0 := fun o => hb.cell (p := ⟨w.heap.size, o, none⟩) (by first | omega | (simp <;> omega))
        have bf0 := fun o => hb.frozen (p := ⟨w.heap.size, o, none⟩) (by first | omega | (simp <;> omega))
        have bz0 : w.heap.size < w2.heap.size := by first | omega | (simp <;> omega)
        have ng : ¬ g = w2.heap.size := by omega
        have ng' : ¬ w2.heap.size = g := by omega
        have nw : ¬ w.heap.size = w2.heap.size := by omega
        have nw' : ¬ w2.heap.size = w.heap.size := by omega
        clear hb
        go_wp2_with fail
        refine (HPI.out _).mono ?_
        rintro e w3 ⟨rfl, hb⟩
        have hz3 := hb.size
        (try simp at hz3)
        have bC : Below w.heap.size w w3 := (by repeat (first | (with_reducible exact Below.refl _ _) | (with_reducible assumption) | ((with_reducible refine Below.alloc ?_ ?_ _); rotate_left; (first | omega | (simp <;> omega))) | ((with_reducible refine Below.setCell ?_ ?_ _); rotate_left; (first | omega | (simp <;> omega))) | (with_reducible refine below_drewN ?_ _) | (with_reducible refine Below.drew ?_) | ((with_reducible refine Below.step (by assumption) ?_ ?_); rotate_left; (first | omega | (simp <;> omega)))))
        have dc0 := fun o => hb.cell (p := ⟨w.heap.size, o, none⟩) (by first | omega | (simp <;> omega))
        have df0 := fun o => hb.frozen (p := ⟨w.heap.size, o, none⟩) (by first | omega | (simp <;> omega))
        have dz0 : w.heap.size < w3.heap.size := by first | omega | (simp <;> omega)
        have dc1 := fun o => hb.cell (p := ⟨w2.heap.size, o, none⟩) (by first | omega | (simp <;> omega))
        have df1 := fun o => hb.frozen (p := ⟨w2.heap.size, o, none⟩) (by first | omega | (simp <;> omega))
        have dz1 : w2.heap.size < w3.heap.size := by first | omega | (simp <;> omega)
        have dc2 := fun o => hb.cell (p := ⟨g, o, none⟩) (by first | omega | (simp <;> omega))
        have df2 := fun o => hb.frozen (p := ⟨g, o, none⟩) (by first | omega | (simp <;> omega))
        have dz2 : g < w3.heap.size := by first | omega | (simp <;> omega)
        clear hb
        go_wp2_with fail
        refine (HPL.out _).mono ?_
        rintro e w4 ⟨A, c, rfl, ho, hge, hb⟩
        have hz4 := hb.size
        (try simp at hz4)
        (try simp at hge)
        have bD : Below w.heap.size w w4 := (by repeat (first | (with_reducible exact Below.refl _ _) | (with_reducible assumption) | ((with_reducible refine Below.alloc ?_ ?_ _); rotate_left; (first | omega | (simp <;> omega))) | ((with_reducible refine Below.setCell ?_ ?_ _); rotate_left; (first | omega | (simp <;> omega))) | (with_reducible refine below_drewN ?_ _) | (with_reducible refine Below.drew ?_) | ((with_reducible refine Below.step (by assumption) ?_ ?_); rotate_left; (first | omega | (simp <;> omega)))))
        have ec0 := fun o => hb.cell (p := ⟨w.heap.size, o, none⟩) (by first | omega | (simp <;> omega))
        have ef0 := fun o => hb.frozen (p := ⟨w.heap.size, o, none⟩) (by first | omega | (simp <;> omega))
        have ez0 : w.heap.size < w4.heap.size := by first | omega | (simp <;> omega)
        have ec1 := fun o => hb.cell (p := ⟨w2.heap.size, o, none⟩) (by first | omega | (simp <;> omega))
        have ef1 := fun o => hb.frozen (p := ⟨w2.heap.size, o, none⟩) (by first | omega | (simp <;> omega))
        have ez1 : w2.heap.size < w4.heap.size := by first | omega | (simp <;> omega)
        clear hb
        have HO := Lib.hid ho
        have HGE := Lib.hid hge
        clear ho hge
        go_wp2_with fail
        refine (HFR.out _ _ _ (OwnS.rs (t := 3) (by repeat (first | (with_reducible exact HO.out) | ((with_reducible refine OwnS.far ?_ (fun x hx => ?_) _); rotate_left; (have h1 := HGE.out x hx; have h2 := OwnS.lt HO.out x hx; (try simp at h1); first | omega | (simp <;> omega))) | (with_reducible refine OwnS.alloc ?_ _) | (with_reducible refine OwnS.drewN ?_ _) | (with_reducible refine OwnS.drew ?_) | (with_reducible refine OwnS.step (by assumption) ?_))))).mono ?_
        rintro e w5 ⟨rfl, hb⟩
        have hz5 := hb.size
        (try simp at hz5)
        have bE : Below w.heap.size w w5 := (by repeat (first | (with_reducible exact Below.refl _ _) | (with_reducible assumption) | ((with_reducible refine Below.alloc ?_ ?_ _); rotate_left; (first | omega | (simp <;> omega))) | ((with_reducible refine Below.setCell ?_ ?_ _); rotate_left; (first | omega | (simp <;> omega))) | (with_reducible refine below_drewN ?_ _) | (with_reducible refine Below.drew ?_) | ((with_reducible refine Below.step (by assumption) ?_ ?_); rotate_left; (first | omega | (simp <;> omega)))))
        have fc0 := fun o => hb.cell (p := ⟨w.heap.size, o, none⟩) (by first | omega | (simp <;> omega))
        have ff0 := fun o => hb.frozen (p := ⟨w.heap.size, o, none⟩) (by first | omega | (simp <;> omega))
        have fz0 : w.heap.size < w5.heap.size := by first | omega | (simp <;> omega)
        have fc1 := fun o => hb.cell (p := ⟨w2.heap.size, o, none⟩) (by first | omega | (simp <;> omega))
        have ff1 := fun o => hb.frozen (p := ⟨w2.heap.size, o, none⟩) (by first | omega | (simp <;> omega))
        have fz1 : w2.heap.size < w5.heap.size := by first | omega | (simp <;> omega)
        have HO5 : Hid (OwnS w5 1 A vl.length c 3 (ints vl)) := Lib.hid (OwnS.step hb (by repeat (first | (with_reducible exact HO.out) | ((with_reducible refine OwnS.far ?_ (fun x hx => ?_) _); rotate_left; (have h1 := HGE.out x hx; have h2 := OwnS.lt HO.out x hx; (try simp at h1); first | omega | (simp <;> omega))) | (with_reducible refine OwnS.alloc ?_ _) | (with_reducible refine OwnS.drewN ?_ _) | (with_reducible refine OwnS.drew ?_) | (with_reducible refine OwnS.step (by assumption) ?_))))
        clear hb
        go_wp2_with fail
        exact bodyPost_ret (v := .tuple #[vLogged 0 (.slice none 0 0), .bool false]) (by simp [results, Tryd.results19, go_sem, *]) rfl (by rw [HR.out]; exact OutR.no (by repeat (first | (with_reducible exact Below.refl _ _) | (with_reducible assumption) | ((with_reducible refine Below.alloc ?_ ?_ _); rotate_left; (first | omega | (simp <;> omega))) | ((with_reducible refine Below.setCell ?_ ?_ _); rotate_left; (first | omega | (simp <;> omega))) | (with_reducible refine below_drewN ?_ _) | (with_reducible refine Below.drew ?_) | ((with_reducible refine Below.step (by assumption) ?_ ?_); rotate_left; (first | omega | (simp <;> omega))))))
      · have HR := Lib.hid hr
        clear hr
        go_enter Tryd.func19, Tryd.ntmps19
        go_wp2_with fail
        refine (HSL.out _).mono ?_
        rintro e w1 ⟨P, pc, rfl, hrs, hpg, hb⟩
        have hz := hb.size
        (try simp at hz)
        have bA : Below w.heap.size w w1 := (by repeat (first | (with_reducible exact Below.refl _ _) | (with_reducible assumption) | ((with_reducible refine Below.alloc ?_ ?_ _); rotate_left; (first | omega | (simp <;> omega))) | ((with_reducible refine Below.setCell ?_ ?_ _); rotate_left; (first | omega | (simp <;> omega))) | (with_reducible refine below_drewN ?_ _) | (with_reducible refine Below.drew ?_) | ((with_reducible refine Below.step (by assumption) ?_ ?_); rotate_left; (first | omega | (simp <;> omega)))))
        obtain ⟨b, off, rfl, hbh, hcell⟩ := hrs.open_.2.2 (by simp)
        have c1 : w1.cell? ⟨b, off, none⟩ = some (str x) := hcell 0 (by simp)
        clear hcell hrs hpg
        have ac0 := fun o => hb.cell (p := ⟨w.heap.size, o, none⟩) (by first | omega | (simp <;> omega))
        have af0 := fun o => hb.frozen (p := ⟨w.heap.size, o, none⟩) (by first | omega | (simp <;> omega))
        have az0 : w.heap.size < w1.heap.size := by first | omega | (simp <;> omega)
        clear hb
        go_wp2_with fail
        refine (HSA.out _).mono ?_
        rintro e w2 ⟨Q, qc, rfl, hrs, hpg, hb⟩
        have hz2 := hb.size
        (try simp at hz2)
        have bB : Below w.heap.size w w2 := (by repeat (first | (with_reducible exact Below.refl _ _) | (with_reducible assumption) | ((with_reducible refine Below.alloc ?_ ?_ _); rotate_left; (first | omega | (simp <;> omega))) | ((with_reducible refine Below.setCell ?_ ?_ _); rotate_left; (first | omega | (simp <;> omega))) | (with_reducible refine below_drewN ?_ _) | (with_reducible refine Below.drew ?_) | ((with_reducible refine Below.step (by assumption) ?_ ?_); rotate_left; (first | omega | (simp <;> omega)))))
        obtain ⟨g, go, rfl, hgh, hcell⟩ := hrs.open_.2.2 (by simp)
        have k1 : w2.cell? ⟨g, go + 1, none⟩ = some (str wb) := hcell 1 (by simp)
        have k3 : w2.cell? ⟨g, go + 3, none⟩ = some (str wd) := hcell 3 (by simp)
        clear hcell hrs hpg
        have bc0 := fun o => hb.cell (p := ⟨w.heap.size, o, none⟩) (by first | omega | (simp <;> omega))
        have bf0 := fun o => hb.frozen (p := ⟨w.heap.size, o, none⟩) (by first | omega | (simp <;> omega))
        have bz0 : w.heap.size < w2.heap.size := by first | omega | (simp <;> omega)
        have ng : ¬ g = w2.heap.size := by omega
        have ng' : ¬ w2.heap.size = g := by omega
        have nw : ¬ w.heap.size = w2.heap.size := by omega
        have nw' : ¬ w2.heap.size = w.heap.size := by omega
        clear hb
        go_wp2_with fail
        refine (HPI.out _).mono ?_
        rintro e w3 ⟨rfl, hb⟩
        have hz3 := hb.size
        (try simp at hz3)
        have bC : Below w.heap.size w w3 := (by repeat (first | (with_reducible exact Below.refl _ _) | (with_reducible assumption) | ((with_reducible refine Below.alloc ?_ ?_ _); rotate_left; (first | omega | (simp <;> omega))) | ((with_reducible refine Below.setCell ?_ ?_ _); rotate_left; (first | omega | (simp <;> omega))) | (with_reducible refine below_drewN ?_ _) | (with_reducible refine Below.drew ?_) | ((with_reducible refine Below.step (by assumption) ?_ ?_); rotate_left; (first | omega | (simp <;> omega)))))
        have dc0 := fun o => hb.cell (p := ⟨w.heap.size, o, none⟩) (by first | omega | (simp <;> omega))
        have df0 := fun o => hb.frozen (p := ⟨w.heap.size, o, none⟩) (by first | omega | (simp <;> omega))
        have dz0 : w.heap.size < w3.heap.size := by first | omega | (simp <;> omega)
        have dc1 := fun o => hb.cell (p := ⟨w2.heap.size, o, none⟩) (by first | omega | (simp <;> omega))
        have df1 := fun o => hb.frozen (p := ⟨w2.heap.size, o, none⟩) (by first | omega | (simp <;> omega))
        have dz1 : w2.heap.size < w3.heap.size := by first | omega | (simp <;> omega)
        have dc2 := fun o => hb.cell (p := ⟨g, o, none⟩) (by first | omega | (simp <;> omega))
        have df2 := fun o => hb.frozen (p := ⟨g, o, none⟩) (by first | omega | (simp <;> omega))
        have dz2 : g < w3.heap.size := by first | omega | (simp <;> omega)
        clear hb
        go_wp2_with fail
        refine (HPL.out _).mono ?_
        rintro e w4 ⟨A, c, rfl, ho, hge, hb⟩
        have hz4 := hb.size
        (try simp at hz4)
        (try simp at hge)
        have bD : Below w.heap.size w w4 := (by repeat (first | (with_reducible exact Below.refl _ _) | (with_reducible assumption) | ((with_reducible refine Below.alloc ?_ ?_ _); rotate_left; (first | omega | (simp <;> omega))) | ((with_reducible refine Below.setCell ?_ ?_ _); rotate_left; (first | omega | (simp <;> omega))) | (with_reducible refine below_drewN ?_ _) | (with_reducible refine Below.drew ?_) | ((with_reducible refine Below.step (by assumption) ?_ ?_); rotate_left; (first | omega | (simp <;> omega)))))
        have ec0 := fun o => hb.cell (p := ⟨w.heap.size, o, none⟩) (by first | omega | (simp <;> omega))
        have ef0 := fun o => hb.frozen (p := ⟨w.heap.size, o, none⟩) (by first | omega | (simp <;> omega))
        have ez0 : w.heap.size < w4.heap.size := by first | omega | (simp <;> omega)
        have ec1 := fun o => hb.cell (p := ⟨w2.heap.size, o, none⟩) (by first | omega | (simp <;> omega))
        have ef1 := fun o => hb.frozen (p := ⟨w2.heap.size, o, none⟩) (by first | omega | (simp <;> omega))
        have ez1 : w2.heap.size < w4.heap.size := by first | omega | (simp <;> omega)
        clear hb
        have HO := Lib.hid ho
        have HGE := Lib.hid hge
        clear ho hge
        go_wp2_with fail
        refine (HFR.out _ _ _ (OwnS.rs (t := 3) (by repeat (first | (with_reducible exact HO.out) | ((with_reducible refine OwnS.far ?_ (fun x hx => ?_) _); rotate_left; (have h1 := HGE.out x hx; have h2 := OwnS.lt HO.out x hx; (try simp at h1); first | omega | (simp <;> omega))) | (with_reducible refine OwnS.alloc ?_ _) | (with_reducible refine OwnS.drewN ?_ _) | (with_reducible refine OwnS.drew ?_) | (with_reducible refine OwnS.step (by assumption) ?_))))).mono ?_
        rintro e w5 ⟨rfl, hb⟩
        have hz5 := hb.size
        (try simp at hz5)
        have bE : Below w.heap.size w w5 := (by repeat (first | (with_reducible exact Below.refl _ _) | (with_reducible assumption) | ((with_reducible refine Below.alloc ?_ ?_ _); rotate_left; (first | omega | (simp <;> omega))) | ((with_reducible refine Below.setCell ?_ ?_ _); rotate_left; (first | omega | (simp <;> omega))) | (with_reducible refine below_drewN ?_ _) | (with_reducible refine Below.drew ?_) | ((with_reducible refine Below.step (by assumption) ?_ ?_); rotate_left; (first | omega | (simp <;> omega)))))
        have fc0 := fun o => hb.cell (p := ⟨w.heap.size, o, none⟩) (by first | omega | (simp <;> omega))
        have ff0 := fun o => hb.frozen (p := ⟨w.heap.size, o, none⟩) (by first | omega | (simp <;> omega))
        have fz0 : w.heap.size < w5.heap.size := by first | omega | (simp <;> omega)
        have fc1 := fun o => hb.cell (p := ⟨w2.heap.size, o, none⟩) (by first | omega | (simp <;> omega))
        have ff1 := fun o => hb.frozen (p := ⟨w2.heap.size, o, none⟩) (by first | omega | (simp <;> omega))
        have fz1 : w2.heap.size < w5.heap.size := by first | omega | (simp <;> omega)
        have HO5 : Hid (OwnS w5 1 A vl.length c 3 (ints vl)) := Lib.hid (OwnS.step hb (by repeat (first | (with_reducible exact HO.out) | ((with_reducible refine OwnS.far ?_ (fun x hx => ?_) _); rotate_left; (have h1 := HGE.out x hx; have h2 := OwnS.lt HO.out x hx; (try simp at h1); first | omega | (simp <;> omega))) | (with_reducible refine OwnS.alloc ?_ _) | (with_reducible refine OwnS.drewN ?_ _) | (with_reducible refine OwnS.drew ?_) | (with_reducible refine OwnS.step (by assumption) ?_))))
        clear hb
        go_wp2_with fail
        refine (HFR.out _ _ _ (OwnS.rs (t := 3) (by repeat (first | (with_reducible exact HO5.out) | ((with_reducible refine OwnS.far ?_ (fun x hx => ?_) _); rotate_left; (have h1 := HGE.out x hx; have h2 := OwnS.lt HO5.out x hx; (try simp at h1); first | omega | (simp <;> omega))) | (with_reducible refine OwnS.alloc ?_ _) | (with_reducible refine OwnS.drewN ?_ _) | (with_reducible refine OwnS.drew ?_) | (with_reducible refine OwnS.step (by assumption) ?_))))).mono ?_
        rintro e w6 ⟨rfl, hb⟩
        have hz6 := hb.size
        (try simp at hz6)
        have bF : Below w.heap.size w w6 := (by repeat (first | (with_reducible exact Below.refl _ _) | (with_reducible assumption) | ((with_reducible refine Below.alloc ?_ ?_ _); rotate_left; (first | omega | (simp <;> omega))) | ((with_reducible refine Below.setCell ?_ ?_ _); rotate_left; (first | omega | (simp <;> omega))) | (with_reducible refine below_drewN ?_ _) | (with_reducible refine Below.drew ?_) | ((with_reducible refine Below.step (by assumption) ?_ ?_); rotate_left; (first | omega | (simp <;> omega)))))
        have hc0 := fun o => hb.cell (p := ⟨w.heap.size, o, none⟩) (by first | omega | (simp <;> omega))
        have hf0 := fun o => hb.frozen (p := ⟨w.heap.size, o, none⟩) (by first | omega | (simp <;> omega))
        have hz0 : w.heap.size < w6.heap.size := by first | omega | (simp <;> omega)
        have hc1 := fun o => hb.cell (p := ⟨w2.heap.size, o, none⟩) (by first | omega | (simp <;> omega))
        have hf1 := fun o => hb.frozen (p := ⟨w2.heap.size, o, none⟩) (by first | omega | (simp <;> omega))
        have hz1 : w2.heap.size < w6.heap.size := by first | omega | (simp <;> omega)
        have HO6 : Hid (OwnS w6 1 A vl.length c 3 (ints vl)) := Lib.hid (OwnS.step hb (by repeat (first | (with_reducible exact HO5.out) | ((with_reducible refine OwnS.far ?_ (fun x hx => ?_) _); rotate_left; (have h1 := HGE.out x hx; have h2 := OwnS.lt HO5.out x hx; (try simp at h1); first | omega | (simp <;> omega))) | (with_reducible refine OwnS.alloc ?_ _) | (with_reducible refine OwnS.drewN ?_ _) | (with_reducible refine OwnS.drew ?_) | (with_reducible refine OwnS.step (by assumption) ?_))))
        clear hb
        go_wp2_with fail
        exact bodyPost_ret (v := .tuple #[vLogged vi (.slice A vl.length c), .bool true]) (by simp [results, Tryd.results19, go_sem, *]) rfl (by rw [HR.out]; exact OutR.hit (by repeat (first | (with_reducible exact HO6.out) | ((with_reducible refine OwnS.far ?_ (fun x hx => ?_) _); rotate_left; (have h1 := HGE.out x hx; have h2 := OwnS.lt HO6.out x hx; (try simp at h1); first | omega | (simp <;> omega))) | (with_reducible refine OwnS.alloc ?_ _) | (with_reducible refine OwnS.drewN ?_ _) | (with_reducible refine OwnS.drew ?_) | (with_reducible refine OwnS.step (by assumption) ?_))) (fun x hx => by have := HGE.out x hx; omega) (by repeat (first | (with_reducible exact Below.refl _ _) | (with_reducible assumption) | ((with_reducible refine Below.alloc ?_ ?_ _); rotate_left; (first | omega | (simp <;> omega))) | ((with_reducible refine Below.setCell ?_ ?_ _); rotate_left; (first | omega | (simp <;> omega))) | (with_reducible refine below_drewN ?_ _) | (with_reducible refine Below.drew ?_) | ((with_reducible refine Below.step (by assumption) ?_ ?_); rotate_left; (first | omega | (simp <;> omega))))))
      · have HR := Lib.hid hr
        clear hr
        go_enter Tryd.func19, Tryd.ntmps19
        go_wp2_with fail
        refine (HSL.out _).mono ?_
        rintro e w1 ⟨P, pc, rfl, hrs, hpg, hb⟩
        have hz := hb.size
        (try simp at hz)
        have bA : Below w.heap.size w w1 := (by repeat (first | (with_reducible exact Below.refl _ _) | (with_reducible assumption) | ((with_reducible refine Below.alloc ?_ ?_ _); rotate_left; (first | omega | (simp <;> omega))) | ((with_reducible refine Below.setCell ?_ ?_ _); rotate_left; (first | omega | (simp <;> omega))) | (with_reducible refine below_drewN ?_ _) | (with_reducible refine Below.drew ?_) | ((with_reducible refine Below.step (by assumption) ?_ ?_); rotate_left; (first | omega | (simp <;> omega)))))
        obtain ⟨b, off, rfl, hbh, hcell⟩ := hrs.open_.2.2 (by simp)
        have c1 : w1.cell? ⟨b, off, none⟩ = some (str x) := hcell 0 (by simp)
        clear hcell hrs hpg
        have ac0 := fun o => hb.cell (p := ⟨w.heap.size, o, none⟩) (by first | omega | (simp <;> omega))
        have af0 := fun o => hb.frozen (p := ⟨w.heap.size, o, none⟩) (by first | omega | (simp <;> omega))
        have az0 : w.heap.size < w1.heap.size := by first | omega | (simp <;> omega)
        clear hb
        go_wp2_with fail
        refine (HSA.out _).mono ?_
        rintro e w2 ⟨Q, qc, rfl, hrs, hpg, hb⟩
        have hz2 := hb.size
        (try simp at hz2)
        have bB : Below w.heap.size w w2 := (by repeat (first | (with_reducible exact Below.refl _ _) | (with_reducible assumption) | ((with_reducible refine Below.alloc ?_ ?_ _); rotate_left; (first | omega | (simp <;> omega))) | ((with_reducible refine Below.setCell ?_ ?_ _); rotate_left; (first | omega | (simp <;> omega))) | (with_reducible refine below_drewN ?_ _) | (with_reducible refine Below.drew ?_) | ((with_reducible refine Below.step (by assumption) ?_ ?_); rotate_left; (first | omega | (simp <;> omega)))))
        obtain ⟨g, go, rfl, hgh, hcell⟩ := hrs.open_.2.2 (by simp)
        have k1 : w2.cell? ⟨g, go + 1, none⟩ = some (str wb) := hcell 1 (by simp)
        have k3 : w2.cell? ⟨g, go + 3, none⟩ = some (str wd) := hcell 3 (by simp)
        clear hcell hrs hpg
        have bc0 := fun o => hb.cell (p := ⟨w.heap.size, o, none⟩) (by first | omega | (simp <;> omega))
        have bf0 := fun o => hb.frozen (p := ⟨w.heap.size, o, none⟩) (by first | omega | (simp <;> omega))
        have bz0 : w.heap.size < w2.heap.size := by first | omega | (simp <;> omega)
        have ng : ¬ g = w2.heap.size := by omega
        have ng' : ¬ w2.heap.size = g := by omega
        have nw : ¬ w.heap.size = w2.heap.size := by omega
        have nw' : ¬ w2.heap.size = w.heap.size := by omega
        clear hb
        go_wp2_with fail
        refine (HPI.out _).mono ?_
        rintro e w3 ⟨rfl, hb⟩
        have hz3 := hb.size
        (try simp at hz3)
        have bC : Below w.heap.size w w3 := (by repeat (first | (with_reducible exact Below.refl _ _) | (with_reducible assumption) | ((with_reducible refine Below.alloc ?_ ?_ _); rotate_left; (first | omega | (simp <;> omega))) | ((with_reducible refine Below.setCell ?_ ?_ _); rotate_left; (first | omega | (simp <;> omega))) | (with_reducible refine below_drewN ?_ _) | (with_reducible refine Below.drew ?_) | ((with_reducible refine Below.step (by assumption) ?_ ?_); rotate_left; (first | omega | (simp <;> omega)))))
        have dc0 := fun o => hb.cell (p := ⟨w.heap.size, o, none⟩) (by first | omega | (simp <;> omega))
        have df0 := fun o => hb.frozen (p := ⟨w.heap.size, o, none⟩) (by first | omega | (simp <;> omega))
        have dz0 : w.heap.size < w3.heap.size := by first | omega | (simp <;> omega)
        have dc1 := fun o => hb.cell (p := ⟨w2.heap.size, o, none⟩) (by first | omega | (simp <;> omega))
        have df1 := fun o => hb.frozen (p := ⟨w2.heap.size, o, none⟩) (by first | omega | (simp <;> omega))
        have dz1 : w2.heap.size < w3.heap.size := by first | omega | (simp <;> omega)
        have dc2 := fun o => hb.cell (p := ⟨g, o, none⟩) (by first | omega | (simp <;> omega))
        have df2 := fun o => hb.frozen (p := ⟨g, o, none⟩) (by first | omega | (simp <;> omega))
        have dz2 : g < w3.heap.size := by first | omega | (simp <;> omega)
        clear hb
        go_wp2_with fail
        refine (HPL.out _).mono ?_
        rintro e w4 ⟨A, c, rfl, ho, hge, hb⟩
        have hz4 := hb.size
        (try simp at hz4)
        (try simp at hge)
        have bD : Below w.heap.size w w4 := (by repeat (first | (with_reducible exact Below.refl _ _) | (with_reducible assumption) | ((with_reducible refine Below.alloc ?_ ?_ _); rotate_left; (first | omega | (simp <;> omega))) | ((with_reducible refine Below.setCell ?_ ?_ _); rotate_left; (first | omega | (simp <;> omega))) | (with_reducible refine below_drewN ?_ _) | (with_reducible refine Below.drew ?_) | ((with_reducible refine Below.step (by assumption) ?_ ?_); rotate_left; (first | omega | (simp <;> omega)))))
        have ec0 := fun o => hb.cell (p := ⟨w.heap.size, o, none⟩) (by first | omega | (simp <;> omega))
        have ef0 := fun o => hb.frozen (p := ⟨w.heap.size, o, none⟩) (by first | omega | (simp <;> omega))
        have ez0 : w.heap.size < w4.heap.size := by first | omega | (simp <;> omega)
        have ec1 := fun o => hb.cell (p := ⟨w2.heap.size, o, none⟩) (by first | omega | (simp <;> omega))
        have ef1 := fun o => hb.frozen (p := ⟨w2.heap.size, o, none⟩) (by first | omega | (simp <;> omega))
        have ez1 : w2.heap.size < w4.heap.size := by first | omega | (simp <;> omega)
        clear hb
        have HO := Lib.hid ho
        have HGE := Lib.hid hge
        clear ho hge
        go_wp2_with fail
        refine (HFR.out _ _ _ (OwnS.rs (t := 3) (by repeat (first | (with_reducible exact HO.out) | ((with_reducible refine OwnS.far ?_ (fun x hx => ?_) _); rotate_left; (have h1 := HGE.out x hx; have h2 := OwnS.lt HO.out x hx; (try simp at h1); first | omega | (simp <;> omega))) | (with_reducible refine OwnS.alloc ?_ _) | (with_reducible refine OwnS.drewN ?_ _) | (with_reducible refine OwnS.drew ?_) | (with_reducible refine OwnS.step (by assumption) ?_))))).mono ?_
        rintro e w5 ⟨rfl, hb⟩
        have hz5 := hb.size
        (try simp at hz5)
        have bE : Below w.heap.size w w5 := (by repeat (first | (with_reducible exact Below.refl _ _) | (with_reducible assumption) | ((with_reducible refine Below.alloc ?_ ?_ _); rotate_left; (first | omega | (simp <;> omega))) | ((with_reducible refine Below.setCell ?_ ?_ _); rotate_left; (first | omega | (simp <;> omega))) | (with_reducible refine below_drewN ?_ _) | (with_reducible refine Below.drew ?_) | ((with_reducible refine Below.step (by assumption) ?_ ?_); rotate_left; (first | omega | (simp <;> omega)))))
        have fc0 := fun o => hb.cell (p := ⟨w.heap.size, o, none⟩) (by first | omega | (simp <;> omega))
        have ff0 := fun o => hb.frozen (p := ⟨w.heap.size, o, none⟩) (by first | omega | (simp <;> omega))
        have fz0 : w.heap.size < w5.heap.size := by first | omega | (simp <;> omega)
        have fc1 := fun o => hb.cell (p := ⟨w2.heap.size, o, none⟩) (by first | omega | (simp <;> omega))
        have ff1 := fun o => hb.frozen (p := ⟨w2.heap.size, o, none⟩) (by first | omega | (simp <;> omega))
        have fz1 : w2.heap.size < w5.heap.size := by first | omega | (simp <;> omega)
        have HO5 : Hid (OwnS w5 1 A vl.length c 3 (ints vl)) := Lib.hid (OwnS.step hb (by repeat (first | (with_reducible exact HO.out) | ((with_reducible refine OwnS.far ?_ (fun x hx => ?_) _); rotate_left; (have h1 := HGE.out x hx; have h2 := OwnS.lt HO.out x hx; (try simp at h1); first | omega | (simp <;> omega))) | (with_reducible refine OwnS.alloc ?_ _) | (with_reducible refine OwnS.drewN ?_ _) | (with_reducible refine OwnS.drew ?_) | (with_reducible refine OwnS.step (by assumption) ?_))))
        clear hb
        go_wp2_with fail
        refine (HFR.out _ _ _ (OwnS.rs (t := 3) (by repeat (first | (with_reducible exact HO5.out) | ((with_reducible refine OwnS.far ?_ (fun x hx => ?_) _); rotate_left; (have h1 := HGE.out x hx; have h2 := OwnS.lt HO5.out x hx; (try simp at h1); first | omega | (simp <;> omega))) | (with_reducible refine OwnS.alloc ?_ _) | (with_reducible refine OwnS.drewN ?_ _) | (with_reducible refine OwnS.drew ?_) | (with_reducible refine OwnS.step (by assumption) ?_))))).mono ?_
        rintro e w6 ⟨rfl, hb⟩
        have hz6 := hb.size
        (try simp at hz6)
        have bF : Below w.heap.size w w6 := (by repeat (first | (with_reducible exact Below.refl _ _) | (with_reducible assumption) | ((with_reducible refine Below.alloc ?_ ?_ _); rotate_left; (first | omega | (simp <;> omega))) | ((with_reducible refine Below.setCell ?_ ?_ _); rotate_left; (first | omega | (simp <;> omega))) | (with_reducible refine below_drewN ?_ _) | (with_reducible refine Below.drew ?_) | ((with_reducible refine Below.step (by assumption) ?_ ?_); rotate_left; (first | omega | (simp <;> omega)))))
        have hc0 := fun o => hb.cell (p := ⟨w.heap.size, o, none⟩) (by first | omega | (simp <;> omega))
        have hf0 := fun o => hb.frozen (p := ⟨w.heap.size, o, none⟩) (by first | omega | (simp <;> omega))
        have hz0 : w.heap.size < w6.heap.size := by first | omega | (simp <;> omega)
        have hc1 := fun o => hb.cell (p := ⟨w2.heap.size, o, none⟩) (by first | omega | (simp <;> omega))
        have hf1 := fun o => hb.frozen (p := ⟨w2.heap.size, o, none⟩) (by first | omega | (simp <;> omega))
        have hz1 : w2.heap.size < w6.heap.size := by first | omega | (simp <;> omega)
        have HO6 : Hid (OwnS w6 1 A vl.length c 3 (ints vl)) := Lib.hid (OwnS.step hb (by repeat (first | (with_reducible exact HO5.out) | ((with_reducible refine OwnS.far ?_ (fun x hx => ?_) _); rotate_left; (have h1 := HGE.out x hx; have h2 := OwnS.lt HO5.out x hx; (try simp at h1); first | omega | (simp <;> omega))) | (with_reducible refine OwnS.alloc ?_ _) | (with_reducible refine OwnS.drewN ?_ _) | (with_reducible refine OwnS.drew ?_) | (with_reducible refine OwnS.step (by assumption) ?_))))
        clear hb
        go_wp2_with fail
        exact bodyPost_ret (v := .tuple #[vLogged 0 (.slice none 0 0), .bool false]) (by simp [results, Tryd.results19, go_sem, *]) rfl (by rw [HR.out]; exact OutR.no (by repeat (first | (with_reducible exact Below.refl _ _) | (with_reducible assumption) | ((with_reducible refine Below.alloc ?_ ?_ _); rotate_left; (first | omega | (simp <;> omega))) | ((with_reducible refine Below.setCell ?_ ?_ _); rotate_left; (first | omega | (simp <;> omega))) | (with_reducible refine below_drewN ?_ _) | (with_reducible refine Below.drew ?_) | ((with_reducible refine Below.step (by assumption) ?_ ?_); rotate_left; (first | omega | (simp <;> omega))))))
end Go.Proofs.YtlepnjahpmlccaaDoor
