/- assigned, exprOf, known, fitting of the program. -/
import Derived.Test.YtjipfgadamokaaaGreatDoorCheckA
import Derived.Maps.Own
import Derived.Maps.OwnOps
import Derived.Maps.OwnSet
import Derived.Maps.Views
set_option linter.unusedVariables false
set_option linter.unusedSimpArgs false
namespace Go.Proofs.YtjipfgadamokaaaGreatDoor
open Go.RowKit Go.Lib Go.Maps Go.WideMaps
set_option maxRecDepth 100000
theorem keyS : Keyed Tryz.prog 9 := string_keyed Tryz.underlying9
theorem zeroI (w : World) : (zeroValue 3).run Tryz.prog w = .ok (.int .i64 0) w := by kernel_rfl
abbrev MapAt (w : World) (B n : Nat) (D : DataW Unit) : Prop := w.ownsMap Tryz.prog 9 (plainElem Tryz.prog 3) B n D
theorem key_str {l : List UInt8} (h : l.length ≤ maxLen) : keyOf Tryz.prog 9 (str l) = some (.string l) := by
  have := keyOf_string_mk Tryz.underlying9 (s := ⟨l.toArray⟩) h
  simpa using this
theorem MapAt.step {w w' : World} {B n : Nat} {D : DataW Unit} (h : MapAt w B n D) (hb : Below w.heap.size w w') : MapAt w' B n D :=
  World.ownsMap.kept h (row := none) ⟨hb.os, hb.tape, hb.output, hb.size, fun i hi _ => hb.block i hi⟩ (by simp)
/-- The map holds the first assignment to each name among the first k. -/
structure IsFirst (p : EProg) (k : Nat) (D : DataW Unit) : Prop where
  map : IsMap D
  has : ∀ name, Maps.has D (.string name) = (firstTo p name k).isSome
  at_ : ∀ name j, firstTo p name k = some j → ∀ z, D.atKey (.string name) z = .lit (.int .i64 j)
theorem IsFirst.zero (p : EProg) : IsFirst p 0 (.map []) := ⟨isMap_empty, fun _ => rfl, fun _ _ h => by cases h⟩
theorem firstTo_succ {p : EProg} {name : List UInt8} {k : Nat} (h : k < p.2.length) : firstTo p name (k + 1) = match firstTo p name k with | some j => some j | none => if p.2[k].1 = name then some k else none := by
  rw [firstTo]
  simp only [List.getElem?_eq_getElem h, Option.map_some, Option.some.injEq]
  rfl
theorem IsFirst.keep {p : EProg} {k : Nat} {D : DataW Unit} (h : IsFirst p k D) (hk : k < p.2.length) (hs : (firstTo p p.2[k].1 k).isSome = true) : IsFirst p (k + 1) D := by
  have key : ∀ name, firstTo p name (k + 1) = firstTo p name k := by
    intro name
    rw [firstTo_succ hk]
    cases hf : firstTo p name k with
    | some j => rfl
    | none =>
      have : p.2[k].1 ≠ name := fun e => by rw [e, hf] at hs; cases hs
      simp [this]
  exact ⟨h.map, fun name => by rw [key]; exact h.has name, fun name j hj => by rw [key] at hj; exact h.at_ name j hj⟩
theorem IsFirst.put {p : EProg} {k : Nat} {D : DataW Unit} (h : IsFirst p k D) (hk : k < p.2.length) (hs : (firstTo p p.2[k].1 k).isSome = false) : IsFirst p (k + 1) (D.put (.string p.2[k].1) (.lit (.int .i64 k))) := by
  have hn : firstTo p p.2[k].1 k = none := by
    cases hf : firstTo p p.2[k].1 k with
    | none => rfl
    | some j => rw [hf] at hs; cases hs
  refine ⟨h.map.put _ _, fun name => ?_, fun name j hj z => ?_⟩
  · by_cases e : name = p.2[k].1
    · subst e
      rw [has_put_same h.map (show WideAt.IsKeyLit (.string _) from trivial), firstTo_succ hk, hn]; simp
    · have ne : (Lit.string name) ≠ .string p.2[k].1 := fun e' => by injection e' with e'; exact e e'
      rw [has_put_other ne, h.has name, firstTo_succ hk]
      cases hf : firstTo p name k with
      | some j => rfl
      | none => rw [if_neg (fun e' => e e'.symm)]
  · rw [firstTo_succ hk] at hj
    by_cases e : name = p.2[k].1
    · subst e
      rw [hn] at hj
      simp at hj
      subst hj
      rw [atKey_put_same h.map (show WideAt.IsKeyLit (.string _) from trivial)]
    · have ne : (Lit.string name) ≠ .string p.2[k].1 := fun e' => by injection e' with e'; exact e e'
      rw [atKey_put_other ne]
      cases hf : firstTo p name k with
      | some i =>
        rw [hf] at hj
        obtain rfl := Option.some.inj hj
        exact h.at_ name i hf z
      | none =>
        rw [hf] at hj
        rw [if_neg (fun e' => e e'.symm)] at hj
        cases hj
set_option maxHeartbeats 16000000 in
theorem I_assigned {A A2 : Option Addr} {c c2 : Nat} {p : EProg} (w : World) (h : AssignsIn w A2 c2 p.2) (h2 : p.2.length ≤ 60) :
    Calls Tryz.prog 111 #[vProg A p.1.length c A2 p.2.length c2] w fun e w' => ∃ B D, e = .returned (.map (some B)) ∧ MapAt w' B p.2.length D ∧ IsFirst p p.2.length D ∧ w.heap.size ≤ B ∧ Below w.heap.size w w' := by
  have hmm := @run_makeMap Tryz.prog
  have H0 := Lib.hid h
  clear h
  go_enter Tryz.func111, Tryz.ntmps111
  go_wp2_with fail
  go_loopw [4, 5, 6, 7, 12] (fun _ _ _ _ i wr => ∃ (j : Nat) (D : DataW Unit), j ≤ p.2.length ∧ i = .int .i64 j ∧ MapAt wr (w.heap.size + 1) j D ∧ IsFirst p j D ∧ Below w.heap.size w wr) (fun _ _ _ _ i _ => p.2.length - (RowKit.intOf i).toNat)
  case atStart => exact ⟨0, _, Nat.zero_le _, rfl, by have := World.ownsMap_made (H := Unit) (w.alloc (.cells #[.slice A p.1.length c, .slice A2 p.2.length c2] 70)) Tryz.prog 9 (plainElem Tryz.prog 3); simp only [World.size_alloc] at this; exact this, IsFirst.zero p, (by repeat (first | (with_reducible exact Below.refl _ _) | (with_reducible assumption) | ((with_reducible refine Below.alloc ?_ ?_ _); rotate_left; (first | omega | (simp <;> omega))) | ((with_reducible refine Below.setCell ?_ ?_ _); rotate_left; (first | omega | (simp <;> omega))) | (with_reducible refine below_drewN ?_ _) | (with_reducible refine Below.drew ?_) | ((with_reducible refine Below.step (by assumption) ?_ ?_); rotate_left; (first | omega | (simp <;> omega)))))⟩
  case round =>
    obtain ⟨j, D, hj, rfl, hm, hf, hb⟩ := hrel
    obtain ⟨wi, rfl⟩ : ∃ wi, wi = wr := ⟨_, rfl⟩
    have hz := hb.size
    have hml := World.ownsMap.lt hm
    have HB := Lib.hid hb
    have HM := Lib.hid hm
    have HFI := Lib.hid hf
    clear hb hf hm
    by_cases hlj : j < p.2.length
    · obtain ⟨b, o, rfl, hbh, hs, x0, x1⟩ := H0.out.2.2 j hlj
      have d0 := (HB.out.cell (p := ⟨b, o + j * 2, none⟩) hbh).trans x0
      have d1 := (HB.out.cell (p := ⟨b, o + j * 2 + 1, none⟩) hbh).trans x1
      have HKP := Lib.hid (HFI.out.keep hlj)
      have HPT := Lib.hid (HFI.out.put hlj)
      obtain ⟨⟨nm, rt⟩, hx⟩ : ∃ x, p.2[j] = x := ⟨_, rfl⟩
      rw [hx] at d0 d1 hs HKP HPT
      (try dsimp only at d0 d1 hs)
      have HS := Lib.hid hs
      have hkey := key_str hs
      have HH := Lib.hid (HFI.out.has nm)
      have i1 : (j : Int) < p.2.length := by omega
      have i2 : (0 : Int) ≤ j := by omega
      have HMA : Hid (MapAt (wi.alloc (.cells #[str nm, .int .i64 rt] 114)) (w.heap.size + 1) j D) := Lib.hid (World.ownsMap.alloc HM.out _)
      clear x0 x1 hs hx
      cases hhas : (firstTo p nm j).isSome with
      | true =>
        have HK := Lib.hid (HKP.out hhas)
        have HHT : Hid (Maps.has D (.string nm) = true) := Lib.hid (HH.out.trans hhas)
        go_wp2_with (first | (at_lookup; refine wpList_lookup_own_ok_int _ rfl _ _ 149 rfl 9 3 .i64 keyS Tryz.underlying149 Tryz.underlying3 (zeroI _) (w.heap.size + 1) j D rfl HMA.out _ _ rfl hkey ?_; intro cc hat hwc; rw [HHT.out]; clear hat hwc) | fail)
        go_roundw
        case rel => exact ⟨j + 1, D, by omega, by go_num, World.ownsMap.mono HMA.out (by omega), HK.out, (by repeat (first | (with_reducible exact Below.refl _ _) | (with_reducible exact HB.out) | (with_reducible assumption) | ((with_reducible refine Below.alloc ?_ ?_ _); rotate_left; (first | omega | (simp <;> omega))) | ((with_reducible refine Below.setCell ?_ ?_ _); rotate_left; (first | omega | (simp <;> omega))) | (with_reducible refine below_drewN ?_ _) | (with_reducible refine Below.drew ?_) | ((with_reducible refine Below.step (by assumption) ?_ ?_); rotate_left; (first | omega | (simp <;> omega)))))⟩
        case measure => simp [RowKit.intOf]; omega
      | false =>
        have HK := Lib.hid (HPT.out hhas)
        have HHT : Hid (Maps.has D (.string nm) = false) := Lib.hid (HH.out.trans hhas)
        go_wp2_with (first | (at_lookup; refine wpList_lookup_own_ok_int _ rfl _ _ 149 rfl 9 3 .i64 keyS Tryz.underlying149 Tryz.underlying3 (zeroI _) (w.heap.size + 1) j D rfl HMA.out _ _ rfl hkey ?_; intro cc hat hwc; rw [HHT.out]; clear hat hwc) | (at_mapUpdate; refine wpList_mapUpdate_own _ rfl _ _ _ 149 rfl 9 3 keyS Tryz.underlying149 _ (w.heap.size + 1) j _ rfl HMA.out (by unfold maxLen; omega) _ _ _ rfl rfl hkey _ [] (plainElem_int Tryz.underlying3 (WalkArith.wf_i64 (by omega))) ?_; intro w1 hown1 hgrow1; have HM1 := Lib.hid hown1; have HB1 : Hid (Below w.heap.size w w1) := Lib.hid (Below.grown (by repeat (first | (with_reducible exact Below.refl _ _) | (with_reducible exact HB.out) | (with_reducible assumption) | ((with_reducible refine Below.alloc ?_ ?_ _); rotate_left; (first | omega | (simp <;> omega))) | ((with_reducible refine Below.setCell ?_ ?_ _); rotate_left; (first | omega | (simp <;> omega))) | (with_reducible refine below_drewN ?_ _) | (with_reducible refine Below.drew ?_) | ((with_reducible refine Below.step (by assumption) ?_ ?_); rotate_left; (first | omega | (simp <;> omega))))) hgrow1 (by simp; omega) (fun j hj => by cases hj; omega)); clear hown1 hgrow1) | fail)
        go_roundw
        case rel => exact ⟨j + 1, _, by omega, by go_num, HM1.out, HK.out, HB1.out⟩
        case measure => simp [RowKit.intOf]; omega
    · obtain rfl : j = p.2.length := by omega
      go_wp2_with fail
      go_ret
      exact ⟨_, D, rfl, HM.out, HFI.out, by omega, HB.out⟩
end Go.Proofs.YtjipfgadamokaaaGreatDoor
