/- MADE BY PROGRAM (genprei.py). ParseRecord of the program. -/
import Derived.Test.YtlepnjahpmlccaaDoorRecW
import Derived.Deep.RegionHeld3
import Derived.Deep.DeepCutAuto
namespace Go.Proofs.YtlepnjahpmlccaaDoor
open Go.RowKit Go.Lib
set_option linter.unusedVariables false
set_option maxRecDepth 100000
/-- What parseRecord leaves: the record, and the error that says that there is none. -/
def OutRE (tp : TypeId) (p : Value) (r : Option (Int × List Int)) (w : World) (e : Ending) (w' : World) : Prop := MadeLogged (fun s0 => .tuple #[vLogged (r.getD (0, [])).1 s0, if r.isSome then .nilIface else .iface tp p]) (r.getD (0, [])).2.length (ints (r.getD (0, [])).2) w e w'
theorem OutRE.no {w w' : World} {tp : TypeId} {p : Value} (hb : Below w.heap.size w w') : OutRE tp p none w (.returned (.tuple #[vLogged 0 (.slice none 0 0), .iface tp p])) w' :=
  ⟨none, 0, rfl, OwnS.none_ _ _ _, fun x hx => absurd hx (by simp [gOf]), hb⟩
theorem OutRE.hit {w w' : World} {tp : TypeId} {p : Value} {i : Int} {l : List Int} {A : Option Addr} {c : Nat} (h : OwnS w' 1 A l.length c 3 (ints l)) (hg : ∀ x, x ∈ gOf A → w.heap.size ≤ x) (hb : Below w.heap.size w w') : OutRE tp p (some (i, l)) w (.returned (.tuple #[vLogged i (.slice A l.length c), .nilIface])) w' :=
  ⟨A, c, rfl, h, hg, hb⟩
/-- The error of a damaged record. -/
def Dam (tp : TypeId) (p : Value) (w : World) : Prop := w.cell? ⟨0, 0, none⟩ = some (.iface tp p)
theorem Dam.lt {tp : TypeId} {p : Value} {w : World} (h : Dam tp p w) : 0 < w.heap.size := by
  rcases Nat.lt_or_ge 0 w.heap.size with h' | h'
  · exact h'
  · unfold Dam at h; simp [World.cell?, Array.getElem?_eq_none h'] at h
theorem Dam.step {tp : TypeId} {p : Value} {w w' : World} (h : Dam tp p w) (hb : Below w.heap.size w w') : Dam tp p w' :=
  (hb.cell (p := ⟨0, 0, none⟩) h.lt).trans h
theorem cell_alloc_at {w : World} {cs : Array Value} {t : TypeId} {g i : Nat} (hg : g = w.heap.size) : (w.alloc (.cells cs t)).cell? ⟨g, i, none⟩ = cs[i]? := by subst hg; exact World.cell?_alloc_new _ _ _ _
theorem OutR.nothing {w w' : World} {A : Option Addr} {c : Nat} (h : OwnS w' 1 A 0 c 3 []) (hg : ∀ x, x ∈ gOf A → w.heap.size ≤ x) (hb : Below w.heap.size w w') : OutR none w (.returned (.tuple #[vLogged 0 (.slice A 0 c), .bool false])) w' := ⟨A, c, rfl, h, hg, hb⟩
theorem trim_len (t : List UInt8) : (trimSuffix t [10]).length ≤ t.length := by
  unfold trimSuffix; split <;> simp
set_option maxHeartbeats 8000000 in
theorem I_parseRecord {tp : TypeId} {p : Value} (t : List UInt8) (w : World) (hlim : t.length ≤ 1048576) (he : Env w) (hd : Dam tp p w) :
    Calls Tryd.prog 48 #[str t] w (OutRE tp p (parseR t) w) := by
  have HE := Lib.hid he
  have HD := Lib.hid hd
  have hg0 := hd.lt
  have hg1 : ¬ w.heap.size = 0 := by omega
  have hg2 : ¬ 0 = w.heap.size := by omega
  clear he hd
  obtain ⟨x, hx⟩ : ∃ x, trimSuffix t [10] = x := ⟨_, rfl⟩
  have hxl : x.length ≤ 1048576 := by rw [← hx]; exact Nat.le_trans (trim_len t) hlim
  have HTS : Hid (∀ wx, Calls Tryd.prog 65 #[str t, .string ⟨#[10]⟩] wx fun e w' => e = .returned (str x) ∧ wx = w') := Lib.hid (fun wx => by
    have h0 := Tryd.strings_TrimSuffix ⟨t.toArray⟩ ⟨#[10]⟩ wx (by show t.length ≤ _; omega)
    rw [show (⟨t.toArray⟩ : ByteArray).data.toList = t from rfl, show (⟨#[10]⟩ : ByteArray).data.toList = [10] from rfl, hx] at h0
    exact h0.mono fun e w' ⟨h1, h2⟩ => ⟨h1, h2.symm⟩)
  obtain ⟨ws, hws⟩ : ∃ ws, splitB 32 x = ws := ⟨_, rfl⟩
  have HSA : Hid (∀ wx, Calls Tryd.prog 64 #[str x, .string ⟨#[32]⟩] wx (OutStrs ws wx)) := Lib.hid (fun wx => by have := I_SplitAny 32 x wx hxl; rwa [hws] at this)
  by_cases h4 : ws.length = 4
  case neg =>
    have HR : Hid (parseR t = none) := Lib.hid (rec_wordsI (by rw [hx, hws]; exact h4))
    have h4i : ¬ (ws.length : Int) = 4 := by omega
    have h4b : ((ws.length : Int) == 4) = false := by simpa using h4i
    go_enter Tryd.func48, Tryd.ntmps48
    go_wp2_with (first | (go_at_call 65; refine (HTS.out _).mono ?_; rintro e w' ⟨rfl, rfl⟩) | fail)
    refine (HSA.out _).mono ?_
    rintro e w1 ⟨P, pc, rfl, hrs, hpg, hb⟩
    have hz := hb.size
    (try simp at hz)
    have bA : Below w.heap.size w w1 := (by repeat (first | (with_reducible exact Below.refl _ _) | (with_reducible assumption) | ((with_reducible refine Below.alloc ?_ ?_ _); rotate_left; (first | omega | (simp <;> omega))) | ((with_reducible refine Below.setCell ?_ ?_ _); rotate_left; (first | omega | (simp <;> omega))) | (with_reducible refine below_drewN ?_ _) | (with_reducible refine Below.drew ?_) | ((with_reducible refine Below.step (by assumption) ?_ ?_); rotate_left; (first | omega | (simp <;> omega)))))
    have ac0 := fun o => hb.cell (p := ⟨w.heap.size, o, none⟩) (by first | omega | (simp <;> omega))
    have af0 := fun o => hb.frozen (p := ⟨w.heap.size, o, none⟩) (by first | omega | (simp <;> omega))
    have az0 : w.heap.size < w1.heap.size := by first | omega | (simp <;> omega)
    clear hb
    have dm : w1.cell? ⟨0, 0, none⟩ = some (.iface tp p) := HD.out.step (by assumption)
    go_wp2_with fail
    go_region_held3 (fun w' => w'.cell? ⟨0, 0, none⟩ = some (.iface tp p)) (first | go_keep | ((try dsimp only); go_simp; done)) (fail)
    all_goals
      go_wp2_with fail
      exact bodyPost_ret (v := .tuple #[vLogged 0 (.slice none 0 0), .iface tp p]) (by simp [results, Tryd.results48, go_sem, *]) rfl (by rw [HR.out]; exact OutRE.no (by repeat (first | (with_reducible exact Below.refl _ _) | (with_reducible assumption) | ((with_reducible refine Below.alloc ?_ ?_ _); rotate_left; (first | omega | (simp <;> omega))) | ((with_reducible refine Below.setCell ?_ ?_ _); rotate_left; (first | omega | (simp <;> omega))) | (with_reducible refine below_drewN ?_ _) | (with_reducible refine Below.drew ?_) | ((with_reducible refine Below.step (by assumption) ?_ ?_); rotate_left; (first | omega | (simp <;> omega))))))
  case pos =>
    obtain ⟨wa, wb, wc, wd, rfl⟩ : ∃ a b c d, ws = [a, b, c, d] := by
      match ws, h4 with
      | [a, b, c, d], _ => exact ⟨a, b, c, d, rfl⟩
    have hbl : wb.length ≤ 1048576 := Nat.le_trans (splitB_mem (b := 32) (by rw [hws]; simp)) hxl
    have hdl : wd.length ≤ 1048576 := Nat.le_trans (splitB_mem (b := 32) (by rw [hws]; simp)) hxl
    have hne : t ≠ [] := rec_ne (by rw [hx]; exact hws)
    have HM : Hid (¬ ((parseI wb).isSome = true ∧ (parseL wd).isSome = true ∧ fmtR ((parseI wb).getD 0) ((parseL wd).getD []) = t) → parseR t = none) := Lib.hid (rec_missI (by rw [hx]; exact hws))
    obtain ⟨vi, hvi⟩ : ∃ vi, (parseI wb).getD 0 = vi := ⟨_, rfl⟩
    obtain ⟨vl, hvl⟩ : ∃ vl, (parseL wd).getD [] = vl := ⟨_, rfl⟩
    obtain ⟨bi, hbi⟩ : ∃ bi, (parseI wb).isSome = bi := ⟨_, rfl⟩
    obtain ⟨bl, hbl2⟩ : ∃ bl, (parseL wd).isSome = bl := ⟨_, rfl⟩
    have HPI : Hid (∀ wx, Env wx → Calls Tryd.prog 32 #[str wb] wx fun e w' => e = .returned (.tuple #[.int .i64 vi, .bool bi]) ∧ Below wx.heap.size wx w') := Lib.hid (fun wx hx => by have := I_ParseInt wb wx (by omega) hx; rw [show vPI (parseI wb) = .tuple #[.int .i64 vi, .bool bi] by rw [← hvi, ← hbi]] at this; exact this)
    have HPL : Hid (∀ wx, Env wx → Calls Tryd.prog 66 #[str wd] wx fun e w' => ∃ A c, e = .returned (.tuple #[.slice A vl.length c, .bool bl]) ∧ OwnS w' 1 A vl.length c 3 (ints vl) ∧ (∀ x, x ∈ gOf A → wx.heap.size ≤ x) ∧ Below wx.heap.size wx w') := Lib.hid (fun wx hx => by have h0 := I_ParseInts wd wx (by omega) hx; unfold OutPL at h0; rw [hvl, hbl2] at h0; exact h0)
    rw [hvi, hvl, hbi, hbl2] at HM
    clear hvi hvl hbi hbl2 hbl hdl hws hxl h4 hx
    obtain ⟨ft, hft⟩ : ∃ ft, fmtR vi vl = ft := ⟨_, rfl⟩
    have HFR : Hid (∀ (wx : World) (A : Option Addr) (c : Nat), Env wx → RS wx 1 A vl.length c (ints vl) → Calls Tryd.prog 17 #[vLogged vi (.slice A vl.length c)] wx fun e w' => e = .returned (str ft) ∧ Below wx.heap.size wx w') := Lib.hid (fun wx A c hx h => by have := I_FormatRecord (i := vi) wx h hx.tab; rwa [hft] at this)
    have hcases : (bi = false ∧ parseR t = none) ∨ (bi = true ∧ bl = false ∧ parseR t = none) ∨ (bi = true ∧ bl = true ∧ (ft == t) = true ∧ parseR t = some (vi, vl)) ∨ (bi = true ∧ bl = true ∧ (ft == t) = false ∧ parseR t = none) := by
      cases bi with
      | false => exact .inl ⟨rfl, HM.out (fun h => by cases h.1)⟩
      | true =>
        cases bl with
        | false => exact .inr (.inl ⟨rfl, rfl, HM.out (fun h => by cases h.2.1)⟩)
        | true =>
          by_cases e2 : ft = t
          · exact .inr (.inr (.inl ⟨rfl, rfl, by simpa using e2, fmtR_hit hne (hft.trans e2)⟩))
          · exact .inr (.inr (.inr ⟨rfl, rfl, by simpa using e2, HM.out (fun h => e2 (hft.symm.trans h.2.2))⟩))
    clear HM hft hne
    rcases hcases with ⟨rfl, hr⟩ | ⟨rfl, rfl, hr⟩ | ⟨rfl, rfl, e2, hr⟩ | ⟨rfl, rfl, e2, hr⟩
    · have HR := Lib.hid hr
      clear hr
      go_enter Tryd.func48, Tryd.ntmps48
      go_wp2_with (first | (go_at_call 65; refine (HTS.out _).mono ?_; rintro e w' ⟨rfl, rfl⟩) | fail)
      refine (HSA.out _).mono ?_
      rintro e w2 ⟨Q, qc, rfl, hrs, hpg, hb⟩
      have hz2 := hb.size
      (try simp at hz2)
      have bB : Below w.heap.size w w2 := (by repeat (first | (with_reducible exact Below.refl _ _) | (with_reducible assumption) | ((with_reducible refine Below.alloc ?_ ?_ _); rotate_left; (first | omega | (simp <;> omega))) | ((with_reducible refine Below.setCell ?_ ?_ _); rotate_left; (first | omega | (simp <;> omega))) | (with_reducible refine below_drewN ?_ _) | (with_reducible refine Below.drew ?_) | ((with_reducible refine Below.step (by assumption) ?_ ?_); rotate_left; (first | omega | (simp <;> omega)))))
      obtain ⟨g, go, rfl, hgh, hcell⟩ := hrs.open_.2.2 (by simp)
      have k1 : w2.cell? ⟨g, go + 1, none⟩ = some (str wb) := hcell 1 (by simp)
      have k3 : w2.cell? ⟨g, go + 3, none⟩ = some (str wd) := hcell 3 (by simp)
      clear hcell hrs hpg
      have bc0 := fun o => hb.cell (p := ⟨w.heap.size, o, none⟩) (by first | omega | (simp <;> omega))
      have bf0 := fun o => hb.frozen (p := ⟨w.heap.size, o, none⟩) (by first | omega | (simp <;> omega))
      have bz0 : w.heap.size < w2.heap.size := by first | omega | (simp <;> omega)
      clear hb
      go_wp2_with fail
      refine (HPI.out _ (HE.out.step (by repeat (first | (with_reducible exact Below.refl _ _) | (with_reducible assumption) | ((with_reducible refine Below.alloc ?_ ?_ _); rotate_left; (first | omega | (simp <;> omega))) | ((with_reducible refine Below.setCell ?_ ?_ _); rotate_left; (first | omega | (simp <;> omega))) | (with_reducible refine below_drewN ?_ _) | (with_reducible refine Below.drew ?_) | ((with_reducible refine Below.step (by assumption) ?_ ?_); rotate_left; (first | omega | (simp <;> omega))))))).mono ?_
      rintro e w3 ⟨rfl, hb⟩
      have hz3 := hb.size
      (try simp at hz3)
      have bC : Below w.heap.size w w3 := (by repeat (first | (with_reducible exact Below.refl _ _) | (with_reducible assumption) | ((with_reducible refine Below.alloc ?_ ?_ _); rotate_left; (first | omega | (simp <;> omega))) | ((with_reducible refine Below.setCell ?_ ?_ _); rotate_left; (first | omega | (simp <;> omega))) | (with_reducible refine below_drewN ?_ _) | (with_reducible refine Below.drew ?_) | ((with_reducible refine Below.step (by assumption) ?_ ?_); rotate_left; (first | omega | (simp <;> omega)))))
      have dc0 := fun o => hb.cell (p := ⟨w.heap.size, o, none⟩) (by first | omega | (simp <;> omega))
      have df0 := fun o => hb.frozen (p := ⟨w.heap.size, o, none⟩) (by first | omega | (simp <;> omega))
      have dz0 : w.heap.size < w3.heap.size := by first | omega | (simp <;> omega)
      have dc1 := fun o => hb.cell (p := ⟨g, o, none⟩) (by first | omega | (simp <;> omega))
      have df1 := fun o => hb.frozen (p := ⟨g, o, none⟩) (by first | omega | (simp <;> omega))
      have dz1 : g < w3.heap.size := by first | omega | (simp <;> omega)
      clear hb
      go_wp2_with fail
      refine (HPL.out _ (HE.out.step (by repeat (first | (with_reducible exact Below.refl _ _) | (with_reducible assumption) | ((with_reducible refine Below.alloc ?_ ?_ _); rotate_left; (first | omega | (simp <;> omega))) | ((with_reducible refine Below.setCell ?_ ?_ _); rotate_left; (first | omega | (simp <;> omega))) | (with_reducible refine below_drewN ?_ _) | (with_reducible refine Below.drew ?_) | ((with_reducible refine Below.step (by assumption) ?_ ?_); rotate_left; (first | omega | (simp <;> omega))))))).mono ?_
      rintro e w4 ⟨A, c, rfl, ho, hge, hb⟩
      have hz4 := hb.size
      (try simp at hz4)
      (try simp at hge)
      have bD : Below w.heap.size w w4 := (by repeat (first | (with_reducible exact Below.refl _ _) | (with_reducible assumption) | ((with_reducible refine Below.alloc ?_ ?_ _); rotate_left; (first | omega | (simp <;> omega))) | ((with_reducible refine Below.setCell ?_ ?_ _); rotate_left; (first | omega | (simp <;> omega))) | (with_reducible refine below_drewN ?_ _) | (with_reducible refine Below.drew ?_) | ((with_reducible refine Below.step (by assumption) ?_ ?_); rotate_left; (first | omega | (simp <;> omega)))))
      have ec0 := fun o => hb.cell (p := ⟨w.heap.size, o, none⟩) (by first | omega | (simp <;> omega))
      have ef0 := fun o => hb.frozen (p := ⟨w.heap.size, o, none⟩) (by first | omega | (simp <;> omega))
      have ez0 : w.heap.size < w4.heap.size := by first | omega | (simp <;> omega)
      clear hb
      have HO := Lib.hid ho
      have HGE := Lib.hid hge
      clear ho hge
      have nw : ¬ w.heap.size = w4.heap.size := by omega
      have nw' : ¬ w4.heap.size = w.heap.size := by omega
      have ng : ¬ 0 = w4.heap.size := by omega
      have dm : w4.cell? ⟨0, 0, none⟩ = some (.iface tp p) := HD.out.step (by assumption)
      go_wp2_with fail
      go_region_held3 (fun w' => w'.cell? ⟨0, 0, none⟩ = some (.iface tp p)) (first | go_keep | ((try dsimp only); go_simp; done)) (fail)
      all_goals
        go_wp2_with fail
        exact bodyPost_ret (v := .tuple #[vLogged 0 (.slice none 0 0), .iface tp p]) (by simp [results, Tryd.results48, go_sem, *]) rfl (by rw [HR.out]; exact OutRE.no (by repeat (first | (with_reducible exact Below.refl _ _) | (with_reducible assumption) | ((with_reducible refine Below.alloc ?_ ?_ _); rotate_left; (first | omega | (simp <;> omega))) | ((with_reducible refine Below.setCell ?_ ?_ _); rotate_left; (first | omega | (simp <;> omega))) | (with_reducible refine below_drewN ?_ _) | (with_reducible refine Below.drew ?_) | ((with_reducible refine Below.step (by assumption) ?_ ?_); rotate_left; (first | omega | (simp <;> omega))))))
    · have HR := Lib.hid hr
      clear hr
      go_enter Tryd.func48, Tryd.ntmps48
      go_wp2_with (first | (go_at_call 65; refine (HTS.out _).mono ?_; rintro e w' ⟨rfl, rfl⟩) | fail)
      refine (HSA.out _).mono ?_
      rintro e w2 ⟨Q, qc, rfl, hrs, hpg, hb⟩
      have hz2 := hb.size
      (try simp at hz2)
      have bB : Below w.heap.size w w2 := (by repeat (first | (with_reducible exact Below.refl _ _) | (with_reducible assumption) | ((with_reducible refine Below.alloc ?_ ?_ _); rotate_left; (first | omega | (simp <;> omega))) | ((with_reducible refine Below.setCell ?_ ?_ _); rotate_left; (first | omega | (simp <;> omega))) | (with_reducible refine below_drewN ?_ _) | (with_reducible refine Below.drew ?_) | ((with_reducible refine Below.step (by assumption) ?_ ?_); rotate_left; (first | omega | (simp <;> omega)))))
      obtain ⟨g, go, rfl, hgh, hcell⟩ := hrs.open_.2.2 (by simp)
      have k1 : w2.cell? ⟨g, go + 1, none⟩ = some (str wb) := hcell 1 (by simp)
      have k3 : w2.cell? ⟨g, go + 3, none⟩ = some (str wd) := hcell 3 (by simp)
      clear hcell hrs hpg
      have bc0 := fun o => hb.cell (p := ⟨w.heap.size, o, none⟩) (by first | omega | (simp <;> omega))
      have bf0 := fun o => hb.frozen (p := ⟨w.heap.size, o, none⟩) (by first | omega | (simp <;> omega))
      have bz0 : w.heap.size < w2.heap.size := by first | omega | (simp <;> omega)
      clear hb
      go_wp2_with fail
      refine (HPI.out _ (HE.out.step (by repeat (first | (with_reducible exact Below.refl _ _) | (with_reducible assumption) | ((with_reducible refine Below.alloc ?_ ?_ _); rotate_left; (first | omega | (simp <;> omega))) | ((with_reducible refine Below.setCell ?_ ?_ _); rotate_left; (first | omega | (simp <;> omega))) | (with_reducible refine below_drewN ?_ _) | (with_reducible refine Below.drew ?_) | ((with_reducible refine Below.step (by assumption) ?_ ?_); rotate_left; (first | omega | (simp <;> omega))))))).mono ?_
      rintro e w3 ⟨rfl, hb⟩
      have hz3 := hb.size
      (try simp at hz3)
      have bC : Below w.heap.size w w3 := (by repeat (first | (with_reducible exact Below.refl _ _) | (with_reducible assumption) | ((with_reducible refine Below.alloc ?_ ?_ _); rotate_left; (first | omega | (simp <;> omega))) | ((with_reducible refine Below.setCell ?_ ?_ _); rotate_left; (first | omega | (simp <;> omega))) | (with_reducible refine below_drewN ?_ _) | (with_reducible refine Below.drew ?_) | ((with_reducible refine Below.step (by assumption) ?_ ?_); rotate_left; (first | omega | (simp <;> omega)))))
      have dc0 := fun o => hb.cell (p := ⟨w.heap.size, o, none⟩) (by first | omega | (simp <;> omega))
      have df0 := fun o => hb.frozen (p := ⟨w.heap.size, o, none⟩) (by first | omega | (simp <;> omega))
      have dz0 : w.heap.size < w3.heap.size := by first | omega | (simp <;> omega)
      have dc1 := fun o => hb.cell (p := ⟨g, o, none⟩) (by first | omega | (simp <;> omega))
      have df1 := fun o => hb.frozen (p := ⟨g, o, none⟩) (by first | omega | (simp <;> omega))
      have dz1 : g < w3.heap.size := by first | omega | (simp <;> omega)
      clear hb
      go_wp2_with fail
      refine (HPL.out _ (HE.out.step (by repeat (first | (with_reducible exact Below.refl _ _) | (with_reducible assumption) | ((with_reducible refine Below.alloc ?_ ?_ _); rotate_left; (first | omega | (simp <;> omega))) | ((with_reducible refine Below.setCell ?_ ?_ _); rotate_left; (first | omega | (simp <;> omega))) | (with_reducible refine below_drewN ?_ _) | (with_reducible refine Below.drew ?_) | ((with_reducible refine Below.step (by assumption) ?_ ?_); rotate_left; (first | omega | (simp <;> omega))))))).mono ?_
      rintro e w4 ⟨A, c, rfl, ho, hge, hb⟩
      have hz4 := hb.size
      (try simp at hz4)
      (try simp at hge)
      have bD : Below w.heap.size w w4 := (by repeat (first | (with_reducible exact Below.refl _ _) | (with_reducible assumption) | ((with_reducible refine Below.alloc ?_ ?_ _); rotate_left; (first | omega | (simp <;> omega))) | ((with_reducible refine Below.setCell ?_ ?_ _); rotate_left; (first | omega | (simp <;> omega))) | (with_reducible refine below_drewN ?_ _) | (with_reducible refine Below.drew ?_) | ((with_reducible refine Below.step (by assumption) ?_ ?_); rotate_left; (first | omega | (simp <;> omega)))))
      have ec0 := fun o => hb.cell (p := ⟨w.heap.size, o, none⟩) (by first | omega | (simp <;> omega))
      have ef0 := fun o => hb.frozen (p := ⟨w.heap.size, o, none⟩) (by first | omega | (simp <;> omega))
      have ez0 : w.heap.size < w4.heap.size := by first | omega | (simp <;> omega)
      clear hb
      have HO := Lib.hid ho
      have HGE := Lib.hid hge
      clear ho hge
      have nw : ¬ w.heap.size = w4.heap.size := by omega
      have nw' : ¬ w4.heap.size = w.heap.size := by omega
      have ng : ¬ 0 = w4.heap.size := by omega
      have dm : w4.cell? ⟨0, 0, none⟩ = some (.iface tp p) := HD.out.step (by assumption)
      go_wp2_with fail
      go_region_held3 (fun w' => w'.cell? ⟨0, 0, none⟩ = some (.iface tp p)) (first | go_keep | ((try dsimp only); go_simp; done)) (fail)
      all_goals
        go_wp2_with fail
        exact bodyPost_ret (v := .tuple #[vLogged 0 (.slice none 0 0), .iface tp p]) (by simp [results, Tryd.results48, go_sem, *]) rfl (by rw [HR.out]; exact OutRE.no (by repeat (first | (with_reducible exact Below.refl _ _) | (with_reducible assumption) | ((with_reducible refine Below.alloc ?_ ?_ _); rotate_left; (first | omega | (simp <;> omega))) | ((with_reducible refine Below.setCell ?_ ?_ _); rotate_left; (first | omega | (simp <;> omega))) | (with_reducible refine below_drewN ?_ _) | (with_reducible refine Below.drew ?_) | ((with_reducible refine Below.step (by assumption) ?_ ?_); rotate_left; (first | omega | (simp <;> omega))))))
    · have HR := Lib.hid hr
      clear hr
      go_enter Tryd.func48, Tryd.ntmps48
      go_wp2_with (first | (go_at_call 65; refine (HTS.out _).mono ?_; rintro e w' ⟨rfl, rfl⟩) | fail)
      refine (HSA.out _).mono ?_
      rintro e w2 ⟨Q, qc, rfl, hrs, hpg, hb⟩
      have hz2 := hb.size
      (try simp at hz2)
      have bB : Below w.heap.size w w2 := (by repeat (first | (with_reducible exact Below.refl _ _) | (with_reducible assumption) | ((with_reducible refine Below.alloc ?_ ?_ _); rotate_left; (first | omega | (simp <;> omega))) | ((with_reducible refine Below.setCell ?_ ?_ _); rotate_left; (first | omega | (simp <;> omega))) | (with_reducible refine below_drewN ?_ _) | (with_reducible refine Below.drew ?_) | ((with_reducible refine Below.step (by assumption) ?_ ?_); rotate_left; (first | omega | (simp <;> omega)))))
      obtain ⟨g, go, rfl, hgh, hcell⟩ := hrs.open_.2.2 (by simp)
      have k1 : w2.cell? ⟨g, go + 1, none⟩ = some (str wb) := hcell 1 (by simp)
      have k3 : w2.cell? ⟨g, go + 3, none⟩ = some (str wd) := hcell 3 (by simp)
      clear hcell hrs hpg
      have bc0 := fun o => hb.cell (p := ⟨w.heap.size, o, none⟩) (by first | omega | (simp <;> omega))
      have bf0 := fun o => hb.frozen (p := ⟨w.heap.size, o, none⟩) (by first | omega | (simp <;> omega))
      have bz0 : w.heap.size < w2.heap.size := by first | omega | (simp <;> omega)
      clear hb
      go_wp2_with fail
      refine (HPI.out _ (HE.out.step (by repeat (first | (with_reducible exact Below.refl _ _) | (with_reducible assumption) | ((with_reducible refine Below.alloc ?_ ?_ _); rotate_left; (first | omega | (simp <;> omega))) | ((with_reducible refine Below.setCell ?_ ?_ _); rotate_left; (first | omega | (simp <;> omega))) | (with_reducible refine below_drewN ?_ _) | (with_reducible refine Below.drew ?_) | ((with_reducible refine Below.step (by assumption) ?_ ?_); rotate_left; (first | omega | (simp <;> omega))))))).mono ?_
      rintro e w3 ⟨rfl, hb⟩
      have hz3 := hb.size
      (try simp at hz3)
      have bC : Below w.heap.size w w3 := (by repeat (first | (with_reducible exact Below.refl _ _) | (with_reducible assumption) | ((with_reducible refine Below.alloc ?_ ?_ _); rotate_left; (first | omega | (simp <;> omega))) | ((with_reducible refine Below.setCell ?_ ?_ _); rotate_left; (first | omega | (simp <;> omega))) | (with_reducible refine below_drewN ?_ _) | (with_reducible refine Below.drew ?_) | ((with_reducible refine Below.step (by assumption) ?_ ?_); rotate_left; (first | omega | (simp <;> omega)))))
      have dc0 := fun o => hb.cell (p := ⟨w.heap.size, o, none⟩) (by first | omega | (simp <;> omega))
      have df0 := fun o => hb.frozen (p := ⟨w.heap.size, o, none⟩) (by first | omega | (simp <;> omega))
      have dz0 : w.heap.size < w3.heap.size := by first | omega | (simp <;> omega)
      have dc1 := fun o => hb.cell (p := ⟨g, o, none⟩) (by first | omega | (simp <;> omega))
      have df1 := fun o => hb.frozen (p := ⟨g, o, none⟩) (by first | omega | (simp <;> omega))
      have dz1 : g < w3.heap.size := by first | omega | (simp <;> omega)
      clear hb
      go_wp2_with fail
      refine (HPL.out _ (HE.out.step (by repeat (first | (with_reducible exact Below.refl _ _) | (with_reducible assumption) | ((with_reducible refine Below.alloc ?_ ?_ _); rotate_left; (first | omega | (simp <;> omega))) | ((with_reducible refine Below.setCell ?_ ?_ _); rotate_left; (first | omega | (simp <;> omega))) | (with_reducible refine below_drewN ?_ _) | (with_reducible refine Below.drew ?_) | ((with_reducible refine Below.step (by assumption) ?_ ?_); rotate_left; (first | omega | (simp <;> omega))))))).mono ?_
      rintro e w4 ⟨A, c, rfl, ho, hge, hb⟩
      have hz4 := hb.size
      (try simp at hz4)
      (try simp at hge)
      have bD : Below w.heap.size w w4 := (by repeat (first | (with_reducible exact Below.refl _ _) | (with_reducible assumption) | ((with_reducible refine Below.alloc ?_ ?_ _); rotate_left; (first | omega | (simp <;> omega))) | ((with_reducible refine Below.setCell ?_ ?_ _); rotate_left; (first | omega | (simp <;> omega))) | (with_reducible refine below_drewN ?_ _) | (with_reducible refine Below.drew ?_) | ((with_reducible refine Below.step (by assumption) ?_ ?_); rotate_left; (first | omega | (simp <;> omega)))))
      have ec0 := fun o => hb.cell (p := ⟨w.heap.size, o, none⟩) (by first | omega | (simp <;> omega))
      have ef0 := fun o => hb.frozen (p := ⟨w.heap.size, o, none⟩) (by first | omega | (simp <;> omega))
      have ez0 : w.heap.size < w4.heap.size := by first | omega | (simp <;> omega)
      clear hb
      have HO := Lib.hid ho
      have HGE := Lib.hid hge
      clear ho hge
      have nw : ¬ w.heap.size = w4.heap.size := by omega
      have nw' : ¬ w4.heap.size = w.heap.size := by omega
      have ng : ¬ 0 = w4.heap.size := by omega
      go_wp2_with fail
      refine (HFR.out _ _ _ (HE.out.step (by repeat (first | (with_reducible exact Below.refl _ _) | (with_reducible assumption) | ((with_reducible refine Below.alloc ?_ ?_ _); rotate_left; (first | omega | (simp <;> omega))) | ((with_reducible refine Below.setCell ?_ ?_ _); rotate_left; (first | omega | (simp <;> omega))) | (with_reducible refine below_drewN ?_ _) | (with_reducible refine Below.drew ?_) | ((with_reducible refine Below.step (by assumption) ?_ ?_); rotate_left; (first | omega | (simp <;> omega)))))) (OwnS.rs (t := 3) (by repeat (first | (with_reducible exact HO.out) | ((with_reducible refine OwnS.far ?_ (fun x hx => ?_) _); rotate_left; (have h1 := HGE.out x hx; have h2 := OwnS.lt HO.out x hx; (try simp at h1); first | omega | (simp <;> omega))) | (with_reducible refine OwnS.alloc ?_ _) | (with_reducible refine OwnS.drewN ?_ _) | (with_reducible refine OwnS.drew ?_) | (with_reducible refine OwnS.step (by assumption) ?_))))).mono ?_
      rintro e w5 ⟨rfl, hb⟩
      have hz5 := hb.size
      (try simp at hz5)
      have bE : Below w.heap.size w w5 := (by repeat (first | (with_reducible exact Below.refl _ _) | (with_reducible assumption) | ((with_reducible refine Below.alloc ?_ ?_ _); rotate_left; (first | omega | (simp <;> omega))) | ((with_reducible refine Below.setCell ?_ ?_ _); rotate_left; (first | omega | (simp <;> omega))) | (with_reducible refine below_drewN ?_ _) | (with_reducible refine Below.drew ?_) | ((with_reducible refine Below.step (by assumption) ?_ ?_); rotate_left; (first | omega | (simp <;> omega)))))
      have fc0 := fun o => hb.cell (p := ⟨w.heap.size, o, none⟩) (by first | omega | (simp <;> omega))
      have ff0 := fun o => hb.frozen (p := ⟨w.heap.size, o, none⟩) (by first | omega | (simp <;> omega))
      have fz0 : w.heap.size < w5.heap.size := by first | omega | (simp <;> omega)
      have fc1 := fun o => hb.cell (p := ⟨w4.heap.size, o, none⟩) (by first | omega | (simp <;> omega))
      have ff1 := fun o => hb.frozen (p := ⟨w4.heap.size, o, none⟩) (by first | omega | (simp <;> omega))
      have fz1 : w4.heap.size < w5.heap.size := by first | omega | (simp <;> omega)
      have HO5 : Hid (OwnS w5 1 A vl.length c 3 (ints vl)) := Lib.hid (OwnS.step hb (by repeat (first | (with_reducible exact HO.out) | ((with_reducible refine OwnS.far ?_ (fun x hx => ?_) _); rotate_left; (have h1 := HGE.out x hx; have h2 := OwnS.lt HO.out x hx; (try simp at h1); first | omega | (simp <;> omega))) | (with_reducible refine OwnS.alloc ?_ _) | (with_reducible refine OwnS.drewN ?_ _) | (with_reducible refine OwnS.drew ?_) | (with_reducible refine OwnS.step (by assumption) ?_))))
      clear hb
      go_wp2_with fail
      exact bodyPost_ret (v := .tuple #[vLogged vi (.slice A vl.length c), .nilIface]) (by simp [results, Tryd.results48, go_sem, *]) rfl (by rw [HR.out]; exact OutRE.hit (by repeat (first | (with_reducible exact HO5.out) | ((with_reducible refine OwnS.far ?_ (fun x hx => ?_) _); rotate_left; (have h1 := HGE.out x hx; have h2 := OwnS.lt HO5.out x hx; (try simp at h1); first | omega | (simp <;> omega))) | (with_reducible refine OwnS.alloc ?_ _) | (with_reducible refine OwnS.drewN ?_ _) | (with_reducible refine OwnS.drew ?_) | (with_reducible refine OwnS.step (by assumption) ?_))) (fun x hx => by have := HGE.out x hx; omega) (by repeat (first | (with_reducible exact Below.refl _ _) | (with_reducible assumption) | ((with_reducible refine Below.alloc ?_ ?_ _); rotate_left; (first | omega | (simp <;> omega))) | ((with_reducible refine Below.setCell ?_ ?_ _); rotate_left; (first | omega | (simp <;> omega))) | (with_reducible refine below_drewN ?_ _) | (with_reducible refine Below.drew ?_) | ((with_reducible refine Below.step (by assumption) ?_ ?_); rotate_left; (first | omega | (simp <;> omega))))))
    · have HR := Lib.hid hr
      clear hr
      go_enter Tryd.func48, Tryd.ntmps48
      go_wp2_with (first | (go_at_call 65; refine (HTS.out _).mono ?_; rintro e w' ⟨rfl, rfl⟩) | fail)
      refine (HSA.out _).mono ?_
      rintro e w2 ⟨Q, qc, rfl, hrs, hpg, hb⟩
      have hz2 := hb.size
      (try simp at hz2)
      have bB : Below w.heap.size w w2 := (by repeat (first | (with_reducible exact Below.refl _ _) | (with_reducible assumption) | ((with_reducible refine Below.alloc ?_ ?_ _); rotate_left; (first | omega | (simp <;> omega))) | ((with_reducible refine Below.setCell ?_ ?_ _); rotate_left; (first | omega | (simp <;> omega))) | (with_reducible refine below_drewN ?_ _) | (with_reducible refine Below.drew ?_) | ((with_reducible refine Below.step (by assumption) ?_ ?_); rotate_left; (first | omega | (simp <;> omega)))))
      obtain ⟨g, go, rfl, hgh, hcell⟩ := hrs.open_.2.2 (by simp)
      have k1 : w2.cell? ⟨g, go + 1, none⟩ = some (str wb) := hcell 1 (by simp)
      have k3 : w2.cell? ⟨g, go + 3, none⟩ = some (str wd) := hcell 3 (by simp)
      clear hcell hrs hpg
      have bc0 := fun o => hb.cell (p := ⟨w.heap.size, o, none⟩) (by first | omega | (simp <;> omega))
      have bf0 := fun o => hb.frozen (p := ⟨w.heap.size, o, none⟩) (by first | omega | (simp <;> omega))
      have bz0 : w.heap.size < w2.heap.size := by first | omega | (simp <;> omega)
      clear hb
      go_wp2_with fail
      refine (HPI.out _ (HE.out.step (by repeat (first | (with_reducible exact Below.refl _ _) | (with_reducible assumption) | ((with_reducible refine Below.alloc ?_ ?_ _); rotate_left; (first | omega | (simp <;> omega))) | ((with_reducible refine Below.setCell ?_ ?_ _); rotate_left; (first | omega | (simp <;> omega))) | (with_reducible refine below_drewN ?_ _) | (with_reducible refine Below.drew ?_) | ((with_reducible refine Below.step (by assumption) ?_ ?_); rotate_left; (first | omega | (simp <;> omega))))))).mono ?_
      rintro e w3 ⟨rfl, hb⟩
      have hz3 := hb.size
      (try simp at hz3)
      have bC : Below w.heap.size w w3 := (by repeat (first | (with_reducible exact Below.refl _ _) | (with_reducible assumption) | ((with_reducible refine Below.alloc ?_ ?_ _); rotate_left; (first | omega | (simp <;> omega))) | ((with_reducible refine Below.setCell ?_ ?_ _); rotate_left; (first | omega | (simp <;> omega))) | (with_reducible refine below_drewN ?_ _) | (with_reducible refine Below.drew ?_) | ((with_reducible refine Below.step (by assumption) ?_ ?_); rotate_left; (first | omega | (simp <;> omega)))))
      have dc0 := fun o => hb.cell (p := ⟨w.heap.size, o, none⟩) (by first | omega | (simp <;> omega))
      have df0 := fun o => hb.frozen (p := ⟨w.heap.size, o, none⟩) (by first | omega | (simp <;> omega))
      have dz0 : w.heap.size < w3.heap.size := by first | omega | (simp <;> omega)
      have dc1 := fun o => hb.cell (p := ⟨g, o, none⟩) (by first | omega | (simp <;> omega))
      have df1 := fun o => hb.frozen (p := ⟨g, o, none⟩) (by first | omega | (simp <;> omega))
      have dz1 : g < w3.heap.size := by first | omega | (simp <;> omega)
      clear hb
      go_wp2_with fail
      refine (HPL.out _ (HE.out.step (by repeat (first | (with_reducible exact Below.refl _ _) | (with_reducible assumption) | ((with_reducible refine Below.alloc ?_ ?_ _); rotate_left; (first | omega | (simp <;> omega))) | ((with_reducible refine Below.setCell ?_ ?_ _); rotate_left; (first | omega | (simp <;> omega))) | (with_reducible refine below_drewN ?_ _) | (with_reducible refine Below.drew ?_) | ((with_reducible refine Below.step (by assumption) ?_ ?_); rotate_left; (first | omega | (simp <;> omega))))))).mono ?_
      rintro e w4 ⟨A, c, rfl, ho, hge, hb⟩
      have hz4 := hb.size
      (try simp at hz4)
      (try simp at hge)
      have bD : Below w.heap.size w w4 := (by repeat (first | (with_reducible exact Below.refl _ _) | (with_reducible assumption) | ((with_reducible refine Below.alloc ?_ ?_ _); rotate_left; (first | omega | (simp <;> omega))) | ((with_reducible refine Below.setCell ?_ ?_ _); rotate_left; (first | omega | (simp <;> omega))) | (with_reducible refine below_drewN ?_ _) | (with_reducible refine Below.drew ?_) | ((with_reducible refine Below.step (by assumption) ?_ ?_); rotate_left; (first | omega | (simp <;> omega)))))
      have ec0 := fun o => hb.cell (p := ⟨w.heap.size, o, none⟩) (by first | omega | (simp <;> omega))
      have ef0 := fun o => hb.frozen (p := ⟨w.heap.size, o, none⟩) (by first | omega | (simp <;> omega))
      have ez0 : w.heap.size < w4.heap.size := by first | omega | (simp <;> omega)
      clear hb
      have HO := Lib.hid ho
      have HGE := Lib.hid hge
      clear ho hge
      have nw : ¬ w.heap.size = w4.heap.size := by omega
      have nw' : ¬ w4.heap.size = w.heap.size := by omega
      have ng : ¬ 0 = w4.heap.size := by omega
      go_wp2_with fail
      refine (HFR.out _ _ _ (HE.out.step (by repeat (first | (with_reducible exact Below.refl _ _) | (with_reducible assumption) | ((with_reducible refine Below.alloc ?_ ?_ _); rotate_left; (first | omega | (simp <;> omega))) | ((with_reducible refine Below.setCell ?_ ?_ _); rotate_left; (first | omega | (simp <;> omega))) | (with_reducible refine below_drewN ?_ _) | (with_reducible refine Below.drew ?_) | ((with_reducible refine Below.step (by assumption) ?_ ?_); rotate_left; (first | omega | (simp <;> omega)))))) (OwnS.rs (t := 3) (by repeat (first | (with_reducible exact HO.out) | ((with_reducible refine OwnS.far ?_ (fun x hx => ?_) _); rotate_left; (have h1 := HGE.out x hx; have h2 := OwnS.lt HO.out x hx; (try simp at h1); first | omega | (simp <;> omega))) | (with_reducible refine OwnS.alloc ?_ _) | (with_reducible refine OwnS.drewN ?_ _) | (with_reducible refine OwnS.drew ?_) | (with_reducible refine OwnS.step (by assumption) ?_))))).mono ?_
      rintro e w5 ⟨rfl, hb⟩
      have hz5 := hb.size
      (try simp at hz5)
      have bE : Below w.heap.size w w5 := (by repeat (first | (with_reducible exact Below.refl _ _) | (with_reducible assumption) | ((with_reducible refine Below.alloc ?_ ?_ _); rotate_left; (first | omega | (simp <;> omega))) | ((with_reducible refine Below.setCell ?_ ?_ _); rotate_left; (first | omega | (simp <;> omega))) | (with_reducible refine below_drewN ?_ _) | (with_reducible refine Below.drew ?_) | ((with_reducible refine Below.step (by assumption) ?_ ?_); rotate_left; (first | omega | (simp <;> omega)))))
      have fc0 := fun o => hb.cell (p := ⟨w.heap.size, o, none⟩) (by first | omega | (simp <;> omega))
      have ff0 := fun o => hb.frozen (p := ⟨w.heap.size, o, none⟩) (by first | omega | (simp <;> omega))
      have fz0 : w.heap.size < w5.heap.size := by first | omega | (simp <;> omega)
      have fc1 := fun o => hb.cell (p := ⟨w4.heap.size, o, none⟩) (by first | omega | (simp <;> omega))
      have ff1 := fun o => hb.frozen (p := ⟨w4.heap.size, o, none⟩) (by first | omega | (simp <;> omega))
      have fz1 : w4.heap.size < w5.heap.size := by first | omega | (simp <;> omega)
      have HO5 : Hid (OwnS w5 1 A vl.length c 3 (ints vl)) := Lib.hid (OwnS.step hb (by repeat (first | (with_reducible exact HO.out) | ((with_reducible refine OwnS.far ?_ (fun x hx => ?_) _); rotate_left; (have h1 := HGE.out x hx; have h2 := OwnS.lt HO.out x hx; (try simp at h1); first | omega | (simp <;> omega))) | (with_reducible refine OwnS.alloc ?_ _) | (with_reducible refine OwnS.drewN ?_ _) | (with_reducible refine OwnS.drew ?_) | (with_reducible refine OwnS.step (by assumption) ?_))))
      clear hb
      have dm : w5.cell? ⟨0, 0, none⟩ = some (.iface tp p) := HD.out.step (by assumption)
      go_wp2_with fail
      go_region_held3 (fun w' => w'.cell? ⟨0, 0, none⟩ = some (.iface tp p)) (first | go_keep | ((try dsimp only); go_simp; done)) (fail)
      all_goals
        go_wp2_with fail
        exact bodyPost_ret (v := .tuple #[vLogged 0 (.slice none 0 0), .iface tp p]) (by simp [results, Tryd.results48, go_sem, *]) rfl (by rw [HR.out]; exact OutRE.no (by repeat (first | (with_reducible exact Below.refl _ _) | (with_reducible assumption) | ((with_reducible refine Below.alloc ?_ ?_ _); rotate_left; (first | omega | (simp <;> omega))) | ((with_reducible refine Below.setCell ?_ ?_ _); rotate_left; (first | omega | (simp <;> omega))) | (with_reducible refine below_drewN ?_ _) | (with_reducible refine Below.drew ?_) | ((with_reducible refine Below.step (by assumption) ?_ ?_); rotate_left; (first | omega | (simp <;> omega))))))
set_option maxHeartbeats 8000000 in
theorem I_ParseRecord {tp : TypeId} {p : Value} (t : List UInt8) (w : World) (hlim : t.length ≤ 1048576) (he : Env w) (hd : Dam tp p w) :
    Calls Tryd.prog 20 #[str t] w (OutR (parseR t) w) := by
  have HP : Hid (∀ wx, Env wx → Dam tp p wx → Calls Tryd.prog 48 #[str t] wx (OutRE tp p (parseR t) wx)) := Lib.hid (fun wx h1 h2 => I_parseRecord t wx hlim h1 h2)
  have HE := Lib.hid he
  have HD := Lib.hid hd
  clear he hd
  generalize parseR t = r at *
  cases r with
  | none =>
    go_enter Tryd.func20, Tryd.ntmps20
    go_wp2_with fail
    refine (HP.out _ (HE.out.step (by repeat (first | (with_reducible exact Below.refl _ _) | (with_reducible assumption) | ((with_reducible refine Below.alloc ?_ ?_ _); rotate_left; (first | omega | (simp <;> omega))) | ((with_reducible refine Below.setCell ?_ ?_ _); rotate_left; (first | omega | (simp <;> omega))) | (with_reducible refine below_drewN ?_ _) | (with_reducible refine Below.drew ?_) | ((with_reducible refine Below.step (by assumption) ?_ ?_); rotate_left; (first | omega | (simp <;> omega)))))) (HD.out.step (by repeat (first | (with_reducible exact Below.refl _ _) | (with_reducible assumption) | ((with_reducible refine Below.alloc ?_ ?_ _); rotate_left; (first | omega | (simp <;> omega))) | ((with_reducible refine Below.setCell ?_ ?_ _); rotate_left; (first | omega | (simp <;> omega))) | (with_reducible refine below_drewN ?_ _) | (with_reducible refine Below.drew ?_) | ((with_reducible refine Below.step (by assumption) ?_ ?_); rotate_left; (first | omega | (simp <;> omega))))))).mono ?_
    rintro e w1 ⟨A, c, rfl, ho, hge, hb⟩
    have hz := hb.size
    (try simp at hz)
    have bA : Below w.heap.size w w1 := (by repeat (first | (with_reducible exact Below.refl _ _) | (with_reducible assumption) | ((with_reducible refine Below.alloc ?_ ?_ _); rotate_left; (first | omega | (simp <;> omega))) | ((with_reducible refine Below.setCell ?_ ?_ _); rotate_left; (first | omega | (simp <;> omega))) | (with_reducible refine below_drewN ?_ _) | (with_reducible refine Below.drew ?_) | ((with_reducible refine Below.step (by assumption) ?_ ?_); rotate_left; (first | omega | (simp <;> omega)))))
    have nw : ¬ w.heap.size = w1.heap.size := by omega
    have nw' : ¬ w1.heap.size = w.heap.size := by omega
    have ac0 := fun o => hb.cell (p := ⟨w.heap.size, o, none⟩) (by first | omega | (simp <;> omega))
    have af0 := fun o => hb.frozen (p := ⟨w.heap.size, o, none⟩) (by first | omega | (simp <;> omega))
    have az0 : w.heap.size < w1.heap.size := by first | omega | (simp <;> omega)
    clear hb
    have HO : Hid (OwnS w1 1 A 0 c 3 []) := Lib.hid ho
    (try simp at hge)
    have HGE := Lib.hid hge
    clear ho hge
    go_wp2_with fail
    go_region
    all_goals
      (try go_wp2_with fail)
      exact bodyPost_ret (v := .tuple #[vLogged 0 (.slice A 0 c), .bool false]) (by simp [results, Tryd.results20, go_sem, *]) rfl (OutR.nothing (by repeat (first | (with_reducible exact HO.out) | ((with_reducible refine OwnS.far ?_ (fun x hx => ?_) _); rotate_left; (have h1 := HGE.out x hx; have h2 := OwnS.lt HO.out x hx; (try simp at h1); first | omega | (simp <;> omega))) | (with_reducible refine OwnS.alloc ?_ _) | (with_reducible refine OwnS.drewN ?_ _) | (with_reducible refine OwnS.drew ?_) | (with_reducible refine OwnS.step (by assumption) ?_))) (fun x hx => by have := HGE.out x hx; omega) (by repeat (first | (with_reducible exact Below.refl _ _) | (with_reducible assumption) | ((with_reducible refine Below.alloc ?_ ?_ _); rotate_left; (first | omega | (simp <;> omega))) | ((with_reducible refine Below.setCell ?_ ?_ _); rotate_left; (first | omega | (simp <;> omega))) | (with_reducible refine below_drewN ?_ _) | (with_reducible refine Below.drew ?_) | ((with_reducible refine Below.step (by assumption) ?_ ?_); rotate_left; (first | omega | (simp <;> omega))))))
  | some v =>
    obtain ⟨vi, vl⟩ := v
    go_enter Tryd.func20, Tryd.ntmps20
    go_wp2_with fail
    refine (HP.out _ (HE.out.step (by repeat (first | (with_reducible exact Below.refl _ _) | (with_reducible assumption) | ((with_reducible refine Below.alloc ?_ ?_ _); rotate_left; (first | omega | (simp <;> omega))) | ((with_reducible refine Below.setCell ?_ ?_ _); rotate_left; (first | omega | (simp <;> omega))) | (with_reducible refine below_drewN ?_ _) | (with_reducible refine Below.drew ?_) | ((with_reducible refine Below.step (by assumption) ?_ ?_); rotate_left; (first | omega | (simp <;> omega)))))) (HD.out.step (by repeat (first | (with_reducible exact Below.refl _ _) | (with_reducible assumption) | ((with_reducible refine Below.alloc ?_ ?_ _); rotate_left; (first | omega | (simp <;> omega))) | ((with_reducible refine Below.setCell ?_ ?_ _); rotate_left; (first | omega | (simp <;> omega))) | (with_reducible refine below_drewN ?_ _) | (with_reducible refine Below.drew ?_) | ((with_reducible refine Below.step (by assumption) ?_ ?_); rotate_left; (first | omega | (simp <;> omega))))))).mono ?_
    rintro e w1 ⟨A, c, rfl, ho, hge, hb⟩
    have hz := hb.size
    (try simp at hz)
    have bA : Below w.heap.size w w1 := (by repeat (first | (with_reducible exact Below.refl _ _) | (with_reducible assumption) | ((with_reducible refine Below.alloc ?_ ?_ _); rotate_left; (first | omega | (simp <;> omega))) | ((with_reducible refine Below.setCell ?_ ?_ _); rotate_left; (first | omega | (simp <;> omega))) | (with_reducible refine below_drewN ?_ _) | (with_reducible refine Below.drew ?_) | ((with_reducible refine Below.step (by assumption) ?_ ?_); rotate_left; (first | omega | (simp <;> omega)))))
    have nw : ¬ w.heap.size = w1.heap.size := by omega
    have nw' : ¬ w1.heap.size = w.heap.size := by omega
    have ac0 := fun o => hb.cell (p := ⟨w.heap.size, o, none⟩) (by first | omega | (simp <;> omega))
    have af0 := fun o => hb.frozen (p := ⟨w.heap.size, o, none⟩) (by first | omega | (simp <;> omega))
    have az0 : w.heap.size < w1.heap.size := by first | omega | (simp <;> omega)
    clear hb
    (try simp at hge)
    have HO : Hid (OwnS w1 1 A vl.length c 3 (ints vl)) := Lib.hid ho
    have HGE := Lib.hid hge
    clear ho hge
    go_wp2_with fail
    go_region
    all_goals
      (try go_wp2_with fail)
      exact bodyPost_ret (v := .tuple #[vLogged vi (.slice A vl.length c), .bool true]) (by simp [results, Tryd.results20, go_sem, *]) rfl (OutR.hit (by repeat (first | (with_reducible exact HO.out) | ((with_reducible refine OwnS.far ?_ (fun x hx => ?_) _); rotate_left; (have h1 := HGE.out x hx; have h2 := OwnS.lt HO.out x hx; (try simp at h1); first | omega | (simp <;> omega))) | (with_reducible refine OwnS.alloc ?_ _) | (with_reducible refine OwnS.drewN ?_ _) | (with_reducible refine OwnS.drew ?_) | (with_reducible refine OwnS.step (by assumption) ?_))) (fun x hx => by have := HGE.out x hx; omega) (by repeat (first | (with_reducible exact Below.refl _ _) | (with_reducible assumption) | ((with_reducible refine Below.alloc ?_ ?_ _); rotate_left; (first | omega | (simp <;> omega))) | ((with_reducible refine Below.setCell ?_ ?_ _); rotate_left; (first | omega | (simp <;> omega))) | (with_reducible refine below_drewN ?_ _) | (with_reducible refine Below.drew ?_) | ((with_reducible refine Below.step (by assumption) ?_ ?_); rotate_left; (first | omega | (simp <;> omega))))))
end Go.Proofs.YtlepnjahpmlccaaDoor
