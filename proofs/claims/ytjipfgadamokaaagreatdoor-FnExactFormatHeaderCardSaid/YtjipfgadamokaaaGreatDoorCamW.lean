/- MADE BY PROGRAM (gencamw.py). FormatCamera, FormatTexture. -/
import Derived.Test.YtjipfgadamokaaaGreatDoorMgE
import Derived.BigQuiet
import Derived.Deep.QuietTactic
import Derived.Deep.RegionHeld3
set_option linter.unusedVariables false
set_option linter.unusedSimpArgs false
namespace Go.Proofs.YtjipfgadamokaaaGreatDoor
open Go.RowKit Go.Lib
set_option maxRecDepth 100000
theorem cam_num {a b c d : Int} {z : Int} {f g : Int} (h : validCam a b c d f g = true) (hz : z = 0 ∨ z = 1) : ∀ u ∈ [a, b, c, d, z, f, g], inNum u := by
  obtain ⟨h1, h2, h3, h4, h5, h6⟩ := validCam_true h
  intro u hu
  simp only [List.mem_cons, List.not_mem_nil, or_false] at hu
  unfold inNum
  rcases hu with rfl | rfl | rfl | rfl | rfl | rfl | rfl <;> omega
theorem tex_num {log : Int} {l : List Int} (h : validTex log l = true) : ∀ u ∈ l, inNum u := by
  have h4 := (tex_len h).2.2.2
  unfold allIn at h4
  rw [List.all_eq_true] at h4
  intro u hu
  have := inB_true (h4 u hu)
  unfold inNum; omega
set_option maxHeartbeats 4000000 in
theorem S_FormatCamera_true (a b c d f g : Int) (w : World) (hv : validCam a b c d f g = true) :
    Calls Tryz.prog 39 #[vCamera a b c d true f g] w fun e w' => e = .returned (str (camT a b c d true f g)) ∧ Below w.heap.size w w' := by
  have HV : Hid (∀ wx, Calls Tryz.prog 37 #[vCamera a b c d true f g] wx fun e w' => e = .returned (.bool true) ∧ Below wx.heap.size wx w') := Lib.hid (fun wx => by have := S_IsValidCamera (a := a) (b := b) (c := c) (d := d) (e := true) (f := f) (g := g) wx; rw [hv] at this; exact this)
  have HF : Hid (∀ (wx : World) (A : Option Addr), RS wx 1 A 7 7 (ints [a, b, c, d, 1, f, g]) → Below w.heap.size w wx → Calls Tryz.prog 77 #[.slice A 7 7] wx fun e w' => e = .returned (str (camT a b c d true f g)) ∧ Below wx.heap.size wx w') := Lib.hid (fun wx A h hbx => S_FormatInts (l := [a, b, c, d, 1, f, g]) wx h (cam_num hv (by simp)) (by simp) (by simp))
  clear hv
  go_enter Tryz.func39, Tryz.ntmps39
  go_wp2_with (first | (go_at_call 37; refine (HV.out _).mono ?_; rintro e w1 ⟨rfl, hb1⟩; have hz1 := hb1.size; (try simp at hz1); have c0 := fun o => hb1.cell (p := ⟨w.heap.size, o, none⟩) (by first | omega | (simp <;> omega)); have HB1 : Hid (Below w.heap.size w w1) := Lib.hid (Below.step hb1 (by repeat (first | (with_reducible exact Below.refl _ _) | (with_reducible assumption) | ((with_reducible refine Below.alloc ?_ ?_ _); rotate_left; (first | omega | (simp <;> omega))) | ((with_reducible refine Below.setCell ?_ ?_ _); rotate_left; (first | omega | (simp <;> omega))) | (with_reducible refine below_drewN ?_ _) | (with_reducible refine Below.drew ?_) | ((with_reducible refine Below.step (by assumption) ?_ ?_); rotate_left; (first | omega | (simp <;> omega))))) (by first | omega | (simp <;> omega))); clear hb1) | fail)
  refine (HF.out _ _ ?_ (by repeat (first | (with_reducible exact Below.refl _ _) | (with_reducible exact HB1.out) | (with_reducible assumption) | ((with_reducible refine Below.alloc ?_ ?_ _); rotate_left; (first | omega | (simp <;> omega))) | ((with_reducible refine Below.setCell ?_ ?_ _); rotate_left; (first | omega | (simp <;> omega))) | (with_reducible refine below_drewN ?_ _) | (with_reducible refine Below.drew ?_) | ((with_reducible refine Below.step (by assumption) ?_ ?_); rotate_left; (first | omega | (simp <;> omega)))))).mono ?_
  · exact Own.rs (n := 7) (size := 1) (by first | exact Own.new _ _ #[_, _, _, _, _, _, _] | exact Own.at_new (cs := #[_, _, _, _, _, _, _]) rfl) rfl (by decide)
  rintro e w' ⟨rfl, hb⟩
  have hz := hb.size
  (try simp at hz)
  go_wp2_with fail
  go_ret
  exact ⟨rfl, (by repeat (first | (with_reducible exact Below.refl _ _) | (with_reducible exact HB1.out) | (with_reducible assumption) | ((with_reducible refine Below.alloc ?_ ?_ _); rotate_left; (first | omega | (simp <;> omega))) | ((with_reducible refine Below.setCell ?_ ?_ _); rotate_left; (first | omega | (simp <;> omega))) | (with_reducible refine below_drewN ?_ _) | (with_reducible refine Below.drew ?_) | ((with_reducible refine Below.step (by assumption) ?_ ?_); rotate_left; (first | omega | (simp <;> omega)))))⟩
set_option maxHeartbeats 4000000 in
theorem S_FormatCamera_false (a b c d f g : Int) (w : World) (hv : validCam a b c d f g = true) :
    Calls Tryz.prog 39 #[vCamera a b c d false f g] w fun e w' => e = .returned (str (camT a b c d false f g)) ∧ Below w.heap.size w w' := by
  have HV : Hid (∀ wx, Calls Tryz.prog 37 #[vCamera a b c d false f g] wx fun e w' => e = .returned (.bool true) ∧ Below wx.heap.size wx w') := Lib.hid (fun wx => by have := S_IsValidCamera (a := a) (b := b) (c := c) (d := d) (e := false) (f := f) (g := g) wx; rw [hv] at this; exact this)
  have HF : Hid (∀ (wx : World) (A : Option Addr), RS wx 1 A 7 7 (ints [a, b, c, d, 0, f, g]) → Below w.heap.size w wx → Calls Tryz.prog 77 #[.slice A 7 7] wx fun e w' => e = .returned (str (camT a b c d false f g)) ∧ Below wx.heap.size wx w') := Lib.hid (fun wx A h hbx => S_FormatInts (l := [a, b, c, d, 0, f, g]) wx h (cam_num hv (by simp)) (by simp) (by simp))
  clear hv
  go_enter Tryz.func39, Tryz.ntmps39
  go_wp2_with (first | (go_at_call 37; refine (HV.out _).mono ?_; rintro e w1 ⟨rfl, hb1⟩; have hz1 := hb1.size; (try simp at hz1); have c0 := fun o => hb1.cell (p := ⟨w.heap.size, o, none⟩) (by first | omega | (simp <;> omega)); have HB1 : Hid (Below w.heap.size w w1) := Lib.hid (Below.step hb1 (by repeat (first | (with_reducible exact Below.refl _ _) | (with_reducible assumption) | ((with_reducible refine Below.alloc ?_ ?_ _); rotate_left; (first | omega | (simp <;> omega))) | ((with_reducible refine Below.setCell ?_ ?_ _); rotate_left; (first | omega | (simp <;> omega))) | (with_reducible refine below_drewN ?_ _) | (with_reducible refine Below.drew ?_) | ((with_reducible refine Below.step (by assumption) ?_ ?_); rotate_left; (first | omega | (simp <;> omega))))) (by first | omega | (simp <;> omega))); clear hb1) | fail)
  refine (HF.out _ _ ?_ (by repeat (first | (with_reducible exact Below.refl _ _) | (with_reducible exact HB1.out) | (with_reducible assumption) | ((with_reducible refine Below.alloc ?_ ?_ _); rotate_left; (first | omega | (simp <;> omega))) | ((with_reducible refine Below.setCell ?_ ?_ _); rotate_left; (first | omega | (simp <;> omega))) | (with_reducible refine below_drewN ?_ _) | (with_reducible refine Below.drew ?_) | ((with_reducible refine Below.step (by assumption) ?_ ?_); rotate_left; (first | omega | (simp <;> omega)))))).mono ?_
  · exact Own.rs (n := 7) (size := 1) (by first | exact Own.new _ _ #[_, _, _, _, _, _, _] | exact Own.at_new (cs := #[_, _, _, _, _, _, _]) rfl) rfl (by decide)
  rintro e w' ⟨rfl, hb⟩
  have hz := hb.size
  (try simp at hz)
  go_wp2_with fail
  go_ret
  exact ⟨rfl, (by repeat (first | (with_reducible exact Below.refl _ _) | (with_reducible exact HB1.out) | (with_reducible assumption) | ((with_reducible refine Below.alloc ?_ ?_ _); rotate_left; (first | omega | (simp <;> omega))) | ((with_reducible refine Below.setCell ?_ ?_ _); rotate_left; (first | omega | (simp <;> omega))) | (with_reducible refine below_drewN ?_ _) | (with_reducible refine Below.drew ?_) | ((with_reducible refine Below.step (by assumption) ?_ ?_); rotate_left; (first | omega | (simp <;> omega)))))⟩
theorem S_FormatCamera (a b c d : Int) (e : Bool) (f g : Int) (w : World) (hv : validCam a b c d f g = true) :
    Calls Tryz.prog 39 #[vCamera a b c d e f g] w fun e' w' => e' = .returned (str (camT a b c d e f g)) ∧ Below w.heap.size w w' := by
  cases e
  · exact S_FormatCamera_false a b c d f g w hv
  · exact S_FormatCamera_true a b c d f g w hv
set_option maxHeartbeats 8000000 in
theorem S_FormatTexture {log : Int} {A : Option Addr} {c : Nat} {l : List Int} (w : World) (h : RS w 1 A l.length c (ints l)) :
    Calls Tryz.prog 40 #[vTexture log (.slice A l.length c)] w fun e w' => e = .returned (str (if validTex log l then texT log l else [])) ∧ Below w.heap.size w w' := by
  have HV : Hid (∀ b, validTex log l = b → ∀ wx, Below w.heap.size w wx → Calls Tryz.prog 38 #[vTexture log (.slice A l.length c)] wx fun e w' => e = .returned (.bool b) ∧ Below wx.heap.size wx w') := Lib.hid (fun b hb wx hbx => by subst hb; exact S_IsValidTexture wx (RS.step hbx h))
  cases hv : validTex log l with
  | false =>
    clear h
    go_enter Tryz.func40, Tryz.ntmps40
    go_wp2_with (first | (go_at_call 38; refine (HV.out _ hv _ (by repeat (first | (with_reducible exact Below.refl _ _) | (with_reducible assumption) | ((with_reducible refine Below.alloc ?_ ?_ _); rotate_left; (first | omega | (simp <;> omega))) | ((with_reducible refine Below.setCell ?_ ?_ _); rotate_left; (first | omega | (simp <;> omega))) | (with_reducible refine below_drewN ?_ _) | (with_reducible refine Below.drew ?_) | ((with_reducible refine Below.step (by assumption) ?_ ?_); rotate_left; (first | omega | (simp <;> omega)))))).mono ?_; rintro e w1 ⟨rfl, hb1⟩; have HB1 : Hid (Below w.heap.size w w1) := Lib.hid (Below.step hb1 (by repeat (first | (with_reducible exact Below.refl _ _) | (with_reducible assumption) | ((with_reducible refine Below.alloc ?_ ?_ _); rotate_left; (first | omega | (simp <;> omega))) | ((with_reducible refine Below.setCell ?_ ?_ _); rotate_left; (first | omega | (simp <;> omega))) | (with_reducible refine below_drewN ?_ _) | (with_reducible refine Below.drew ?_) | ((with_reducible refine Below.step (by assumption) ?_ ?_); rotate_left; (first | omega | (simp <;> omega))))) (by first | omega | (simp <;> omega))); clear hb1) | fail)
    go_ret
    exact ⟨rfl, (by repeat (first | (with_reducible exact Below.refl _ _) | (with_reducible exact HB1.out) | (with_reducible assumption) | ((with_reducible refine Below.alloc ?_ ?_ _); rotate_left; (first | omega | (simp <;> omega))) | ((with_reducible refine Below.setCell ?_ ?_ _); rotate_left; (first | omega | (simp <;> omega))) | (with_reducible refine below_drewN ?_ _) | (with_reducible refine Below.drew ?_) | ((with_reducible refine Below.step (by assumption) ?_ ?_); rotate_left; (first | omega | (simp <;> omega)))))⟩
  | true =>
    have HN : Hid (∀ wx : World, Below w.heap.size w wx → Calls Tryz.prog 30 #[.int .i64 log] wx fun e w' => e = .returned (str (fmtI log)) ∧ Below wx.heap.size wx w') := Lib.hid (fun wx hbx => S_FormatInt log wx)
    have HF : Hid (∀ wx : World, Below w.heap.size w wx → Calls Tryz.prog 77 #[.slice A l.length c] wx fun e w' => e = .returned (str (fmtL l)) ∧ Below wx.heap.size wx w') := Lib.hid (fun wx hbx => S_FormatInts (l := l) wx (RS.step hbx h) (tex_num hv) (by have := tex_len hv; omega) (by have := tex_len hv; omega))
    have HL1 := Lib.hid (fmtI_len log)
    have HL2 := Lib.hid (fmtL_len l)
    have HL3 := Lib.hid (tex_len hv).2.2.1
    have sl1 : ¬ 9223372036854775807 < (fmtI log).length + 1 := by have := HL1.out; omega
    have sl2 : ¬ 9223372036854775807 < (fmtI log).length + 1 + (fmtL l).length := by have := HL1.out; have := HL2.out; have := HL3.out; omega
    have HT : Hid (texT log l = fmtI log ++ [58] ++ fmtL l) := Lib.hid rfl
    clear h
    generalize fmtI log = X at *
    generalize fmtL l = Y at *
    go_enter Tryz.func40, Tryz.ntmps40
    go_wp2_with (first | (go_at_call 38; refine (HV.out _ hv _ (by repeat (first | (with_reducible exact Below.refl _ _) | (with_reducible assumption) | ((with_reducible refine Below.alloc ?_ ?_ _); rotate_left; (first | omega | (simp <;> omega))) | ((with_reducible refine Below.setCell ?_ ?_ _); rotate_left; (first | omega | (simp <;> omega))) | (with_reducible refine below_drewN ?_ _) | (with_reducible refine Below.drew ?_) | ((with_reducible refine Below.step (by assumption) ?_ ?_); rotate_left; (first | omega | (simp <;> omega)))))).mono ?_; rintro e w1 ⟨rfl, hb1⟩; have hz1 := hb1.size; (try simp at hz1); have c0 := fun o => hb1.cell (p := ⟨w.heap.size, o, none⟩) (by first | omega | (simp <;> omega)); have HB1 : Hid (Below w.heap.size w w1) := Lib.hid (Below.step hb1 (by repeat (first | (with_reducible exact Below.refl _ _) | (with_reducible assumption) | ((with_reducible refine Below.alloc ?_ ?_ _); rotate_left; (first | omega | (simp <;> omega))) | ((with_reducible refine Below.setCell ?_ ?_ _); rotate_left; (first | omega | (simp <;> omega))) | (with_reducible refine below_drewN ?_ _) | (with_reducible refine Below.drew ?_) | ((with_reducible refine Below.step (by assumption) ?_ ?_); rotate_left; (first | omega | (simp <;> omega))))) (by first | omega | (simp <;> omega))); clear hb1) | fail)
    go_region_held3 (fun w' => w'.cell? ⟨w.heap.size, 0, none⟩ = some (.int .i64 log) ∧ w'.cell? ⟨w.heap.size, 1, none⟩ = some (.slice A l.length c))
      (first | go_keep | ((try dsimp only); refine ⟨?_, ?_⟩ <;> (go_simp; done)))
      (first | (go_at_call 30; (with_reducible refine (HN.out _ (by repeat (first | (with_reducible exact Below.refl _ _) | (with_reducible exact HB1.out) | (with_reducible assumption) | ((with_reducible refine Below.alloc ?_ ?_ _); rotate_left; (first | omega | (simp <;> omega))) | ((with_reducible refine Below.setCell ?_ ?_ _); rotate_left; (first | omega | (simp <;> omega))) | (with_reducible refine below_drewN ?_ _) | (with_reducible refine Below.drew ?_) | ((with_reducible refine Below.step (by assumption) ?_ ?_); rotate_left; (first | omega | (simp <;> omega)))))).mono ?_); rintro e wA ⟨rfl, hbA⟩; have hzA := hbA.size; (try simp at hzA); (refine with_box hbA (w.heap.size) ?_ ?_; (first | omega | (simp <;> omega)); intro n0 nf0 nz0)) | (go_at_call 77; (with_reducible refine (HF.out _ (by repeat (first | (with_reducible exact Below.refl _ _) | (with_reducible exact HB1.out) | (with_reducible assumption) | ((with_reducible refine Below.alloc ?_ ?_ _); rotate_left; (first | omega | (simp <;> omega))) | ((with_reducible refine Below.setCell ?_ ?_ _); rotate_left; (first | omega | (simp <;> omega))) | (with_reducible refine below_drewN ?_ _) | (with_reducible refine Below.drew ?_) | ((with_reducible refine Below.step (by assumption) ?_ ?_); rotate_left; (first | omega | (simp <;> omega)))))).mono ?_); rintro e wB ⟨rfl, hbB⟩; have hzB := hbB.size; (try simp at hzB); (refine with_box hbB (w.heap.size) ?_ ?_; (first | omega | (simp <;> omega)); intro m0 mf0 mz0)) | fail)
    all_goals
      go_wp2_with fail
      go_ret
      refine ⟨?_, (by repeat (first | (with_reducible exact Below.refl _ _) | (with_reducible exact HB1.out) | (with_reducible assumption) | ((with_reducible refine Below.alloc ?_ ?_ _); rotate_left; (first | omega | (simp <;> omega))) | ((with_reducible refine Below.setCell ?_ ?_ _); rotate_left; (first | omega | (simp <;> omega))) | (with_reducible refine below_drewN ?_ _) | (with_reducible refine Below.drew ?_) | ((with_reducible refine Below.step (by assumption) ?_ ?_); rotate_left; (first | omega | (simp <;> omega)))))⟩
      first
        | (try rw [if_pos rfl]); rw [HT.out]; show Ending.returned (Value.string ((({ data := X.toArray } : ByteArray) ++ { data := [58].toArray }) ++ { data := Y.toArray })) = _; rw [str_cat, str_cat]
        | fail
set_option maxHeartbeats 4000000 in
theorem I_FormatCamera_true (a b c d f g : Int) (w : World) (hv : validCam a b c d f g = true) (ht : Tab w) :
    Calls Tryz.prog 55 #[vCamera a b c d true f g] w fun e w' => e = .returned (str (camT a b c d true f g)) ∧ Below w.heap.size w w' := by
  have HV : Hid (∀ wx, Calls Tryz.prog 50 #[vCamera a b c d true f g] wx fun e w' => e = .returned (.bool true) ∧ Below wx.heap.size wx w') := Lib.hid (fun wx => by have := I_IsValidCamera (a := a) (b := b) (c := c) (d := d) (e := true) (f := f) (g := g) wx; rw [hv] at this; exact this)
  have HF : Hid (∀ (wx : World) (A : Option Addr), RS wx 1 A 7 7 (ints [a, b, c, d, 1, f, g]) → Below w.heap.size w wx → Calls Tryz.prog 87 #[.slice A 7 7] wx fun e w' => e = .returned (str (camT a b c d true f g)) ∧ Below wx.heap.size wx w') := Lib.hid (fun wx A h hbx => I_FormatInts (l := [a, b, c, d, 1, f, g]) wx h (cam_num hv (by simp)) (by simp) (by simp) (ht.step hbx))
  clear hv ht
  go_enter Tryz.func55, Tryz.ntmps55
  go_wp2_with (first | (go_at_call 50; refine (HV.out _).mono ?_; rintro e w1 ⟨rfl, hb1⟩; have hz1 := hb1.size; (try simp at hz1); have c0 := fun o => hb1.cell (p := ⟨w.heap.size, o, none⟩) (by first | omega | (simp <;> omega)); have HB1 : Hid (Below w.heap.size w w1) := Lib.hid (Below.step hb1 (by repeat (first | (with_reducible exact Below.refl _ _) | (with_reducible assumption) | ((with_reducible refine Below.alloc ?_ ?_ _); rotate_left; (first | omega | (simp <;> omega))) | ((with_reducible refine Below.setCell ?_ ?_ _); rotate_left; (first | omega | (simp <;> omega))) | (with_reducible refine below_drewN ?_ _) | (with_reducible refine Below.drew ?_) | ((with_reducible refine Below.step (by assumption) ?_ ?_); rotate_left; (first | omega | (simp <;> omega))))) (by first | omega | (simp <;> omega))); clear hb1) | fail)
  refine (HF.out _ _ ?_ (by repeat (first | (with_reducible exact Below.refl _ _) | (with_reducible exact HB1.out) | (with_reducible assumption) | ((with_reducible refine Below.alloc ?_ ?_ _); rotate_left; (first | omega | (simp <;> omega))) | ((with_reducible refine Below.setCell ?_ ?_ _); rotate_left; (first | omega | (simp <;> omega))) | (with_reducible refine below_drewN ?_ _) | (with_reducible refine Below.drew ?_) | ((with_reducible refine Below.step (by assumption) ?_ ?_); rotate_left; (first | omega | (simp <;> omega)))))).mono ?_
  · exact Own.rs (n := 7) (size := 1) (by first | exact Own.new _ _ #[_, _, _, _, _, _, _] | exact Own.at_new (cs := #[_, _, _, _, _, _, _]) rfl) rfl (by decide)
  rintro e w' ⟨rfl, hb⟩
  have hz := hb.size
  (try simp at hz)
  go_wp2_with fail
  go_ret
  exact ⟨rfl, (by repeat (first | (with_reducible exact Below.refl _ _) | (with_reducible exact HB1.out) | (with_reducible assumption) | ((with_reducible refine Below.alloc ?_ ?_ _); rotate_left; (first | omega | (simp <;> omega))) | ((with_reducible refine Below.setCell ?_ ?_ _); rotate_left; (first | omega | (simp <;> omega))) | (with_reducible refine below_drewN ?_ _) | (with_reducible refine Below.drew ?_) | ((with_reducible refine Below.step (by assumption) ?_ ?_); rotate_left; (first | omega | (simp <;> omega)))))⟩
set_option maxHeartbeats 4000000 in
theorem I_FormatCamera_false (a b c d f g : Int) (w : World) (hv : validCam a b c d f g = true) (ht : Tab w) :
    Calls Tryz.prog 55 #[vCamera a b c d false f g] w fun e w' => e = .returned (str (camT a b c d false f g)) ∧ Below w.heap.size w w' := by
  have HV : Hid (∀ wx, Calls Tryz.prog 50 #[vCamera a b c d false f g] wx fun e w' => e = .returned (.bool true) ∧ Below wx.heap.size wx w') := Lib.hid (fun wx => by have := I_IsValidCamera (a := a) (b := b) (c := c) (d := d) (e := false) (f := f) (g := g) wx; rw [hv] at this; exact this)
  have HF : Hid (∀ (wx : World) (A : Option Addr), RS wx 1 A 7 7 (ints [a, b, c, d, 0, f, g]) → Below w.heap.size w wx → Calls Tryz.prog 87 #[.slice A 7 7] wx fun e w' => e = .returned (str (camT a b c d false f g)) ∧ Below wx.heap.size wx w') := Lib.hid (fun wx A h hbx => I_FormatInts (l := [a, b, c, d, 0, f, g]) wx h (cam_num hv (by simp)) (by simp) (by simp) (ht.step hbx))
  clear hv ht
  go_enter Tryz.func55, Tryz.ntmps55
  go_wp2_with (first | (go_at_call 50; refine (HV.out _).mono ?_; rintro e w1 ⟨rfl, hb1⟩; have hz1 := hb1.size; (try simp at hz1); have c0 := fun o => hb1.cell (p := ⟨w.heap.size, o, none⟩) (by first | omega | (simp <;> omega)); have HB1 : Hid (Below w.heap.size w w1) := Lib.hid (Below.step hb1 (by repeat (first | (with_reducible exact Below.refl _ _) | (with_reducible assumption) | ((with_reducible refine Below.alloc ?_ ?_ _); rotate_left; (first | omega | (simp <;> omega))) | ((with_reducible refine Below.setCell ?_ ?_ _); rotate_left; (first | omega | (simp <;> omega))) | (with_reducible refine below_drewN ?_ _) | (with_reducible refine Below.drew ?_) | ((with_reducible refine Below.step (by assumption) ?_ ?_); rotate_left; (first | omega | (simp <;> omega))))) (by first | omega | (simp <;> omega))); clear hb1) | fail)
  refine (HF.out _ _ ?_ (by repeat (first | (with_reducible exact Below.refl _ _) | (with_reducible exact HB1.out) | (with_reducible assumption) | ((with_reducible refine Below.alloc ?_ ?_ _); rotate_left; (first | omega | (simp <;> omega))) | ((with_reducible refine Below.setCell ?_ ?_ _); rotate_left; (first | omega | (simp <;> omega))) | (with_reducible refine below_drewN ?_ _) | (with_reducible refine Below.drew ?_) | ((with_reducible refine Below.step (by assumption) ?_ ?_); rotate_left; (first | omega | (simp <;> omega)))))).mono ?_
  · exact Own.rs (n := 7) (size := 1) (by first | exact Own.new _ _ #[_, _, _, _, _, _, _] | exact Own.at_new (cs := #[_, _, _, _, _, _, _]) rfl) rfl (by decide)
  rintro e w' ⟨rfl, hb⟩
  have hz := hb.size
  (try simp at hz)
  go_wp2_with fail
  go_ret
  exact ⟨rfl, (by repeat (first | (with_reducible exact Below.refl _ _) | (with_reducible exact HB1.out) | (with_reducible assumption) | ((with_reducible refine Below.alloc ?_ ?_ _); rotate_left; (first | omega | (simp <;> omega))) | ((with_reducible refine Below.setCell ?_ ?_ _); rotate_left; (first | omega | (simp <;> omega))) | (with_reducible refine below_drewN ?_ _) | (with_reducible refine Below.drew ?_) | ((with_reducible refine Below.step (by assumption) ?_ ?_); rotate_left; (first | omega | (simp <;> omega)))))⟩
theorem I_FormatCamera (a b c d : Int) (e : Bool) (f g : Int) (w : World) (hv : validCam a b c d f g = true) (ht : Tab w) :
    Calls Tryz.prog 55 #[vCamera a b c d e f g] w fun e' w' => e' = .returned (str (camT a b c d e f g)) ∧ Below w.heap.size w w' := by
  cases e
  · exact I_FormatCamera_false a b c d f g w hv ht
  · exact I_FormatCamera_true a b c d f g w hv ht
set_option maxHeartbeats 8000000 in
theorem I_FormatTexture {log : Int} {A : Option Addr} {c : Nat} {l : List Int} (w : World) (h : RS w 1 A l.length c (ints l)) (ht : Tab w) :
    Calls Tryz.prog 56 #[vTexture log (.slice A l.length c)] w fun e w' => e = .returned (str (if validTex log l then texT log l else [])) ∧ Below w.heap.size w w' := by
  have HV : Hid (∀ b, validTex log l = b → ∀ wx, Below w.heap.size w wx → Calls Tryz.prog 51 #[vTexture log (.slice A l.length c)] wx fun e w' => e = .returned (.bool b) ∧ Below wx.heap.size wx w') := Lib.hid (fun b hb wx hbx => by subst hb; exact I_IsValidTexture wx (RS.step hbx h))
  cases hv : validTex log l with
  | false =>
    clear ht h
    go_enter Tryz.func56, Tryz.ntmps56
    go_wp2_with (first | (go_at_call 51; refine (HV.out _ hv _ (by repeat (first | (with_reducible exact Below.refl _ _) | (with_reducible assumption) | ((with_reducible refine Below.alloc ?_ ?_ _); rotate_left; (first | omega | (simp <;> omega))) | ((with_reducible refine Below.setCell ?_ ?_ _); rotate_left; (first | omega | (simp <;> omega))) | (with_reducible refine below_drewN ?_ _) | (with_reducible refine Below.drew ?_) | ((with_reducible refine Below.step (by assumption) ?_ ?_); rotate_left; (first | omega | (simp <;> omega)))))).mono ?_; rintro e w1 ⟨rfl, hb1⟩; have HB1 : Hid (Below w.heap.size w w1) := Lib.hid (Below.step hb1 (by repeat (first | (with_reducible exact Below.refl _ _) | (with_reducible assumption) | ((with_reducible refine Below.alloc ?_ ?_ _); rotate_left; (first | omega | (simp <;> omega))) | ((with_reducible refine Below.setCell ?_ ?_ _); rotate_left; (first | omega | (simp <;> omega))) | (with_reducible refine below_drewN ?_ _) | (with_reducible refine Below.drew ?_) | ((with_reducible refine Below.step (by assumption) ?_ ?_); rotate_left; (first | omega | (simp <;> omega))))) (by first | omega | (simp <;> omega))); clear hb1) | fail)
    go_ret
    exact ⟨rfl, (by repeat (first | (with_reducible exact Below.refl _ _) | (with_reducible exact HB1.out) | (with_reducible assumption) | ((with_reducible refine Below.alloc ?_ ?_ _); rotate_left; (first | omega | (simp <;> omega))) | ((with_reducible refine Below.setCell ?_ ?_ _); rotate_left; (first | omega | (simp <;> omega))) | (with_reducible refine below_drewN ?_ _) | (with_reducible refine Below.drew ?_) | ((with_reducible refine Below.step (by assumption) ?_ ?_); rotate_left; (first | omega | (simp <;> omega)))))⟩
  | true =>
    have HN : Hid (∀ wx : World, Below w.heap.size w wx → Calls Tryz.prog 32 #[.int .i64 log] wx fun e w' => e = .returned (str (fmtI log)) ∧ Below wx.heap.size wx w') := Lib.hid (fun wx hbx => I_FormatInt log wx (ht.step hbx))
    have HF : Hid (∀ wx : World, Below w.heap.size w wx → Calls Tryz.prog 87 #[.slice A l.length c] wx fun e w' => e = .returned (str (fmtL l)) ∧ Below wx.heap.size wx w') := Lib.hid (fun wx hbx => I_FormatInts (l := l) wx (RS.step hbx h) (tex_num hv) (by have := tex_len hv; omega) (by have := tex_len hv; omega) (ht.step hbx))
    have HL1 := Lib.hid (fmtI_len log)
    have HL2 := Lib.hid (fmtL_len l)
    have HL3 := Lib.hid (tex_len hv).2.2.1
    have sl1 : ¬ 9223372036854775807 < (fmtI log).length + 1 := by have := HL1.out; omega
    have sl2 : ¬ 9223372036854775807 < (fmtI log).length + 1 + (fmtL l).length := by have := HL1.out; have := HL2.out; have := HL3.out; omega
    have HT : Hid (texT log l = fmtI log ++ [58] ++ fmtL l) := Lib.hid rfl
    clear h
    generalize fmtI log = X at *
    generalize fmtL l = Y at *
    go_enter Tryz.func56, Tryz.ntmps56
    go_wp2_with (first | (go_at_call 51; refine (HV.out _ hv _ (by repeat (first | (with_reducible exact Below.refl _ _) | (with_reducible assumption) | ((with_reducible refine Below.alloc ?_ ?_ _); rotate_left; (first | omega | (simp <;> omega))) | ((with_reducible refine Below.setCell ?_ ?_ _); rotate_left; (first | omega | (simp <;> omega))) | (with_reducible refine below_drewN ?_ _) | (with_reducible refine Below.drew ?_) | ((with_reducible refine Below.step (by assumption) ?_ ?_); rotate_left; (first | omega | (simp <;> omega)))))).mono ?_; rintro e w1 ⟨rfl, hb1⟩; have hz1 := hb1.size; (try simp at hz1); have c0 := fun o => hb1.cell (p := ⟨w.heap.size, o, none⟩) (by first | omega | (simp <;> omega)); have HB1 : Hid (Below w.heap.size w w1) := Lib.hid (Below.step hb1 (by repeat (first | (with_reducible exact Below.refl _ _) | (with_reducible assumption) | ((with_reducible refine Below.alloc ?_ ?_ _); rotate_left; (first | omega | (simp <;> omega))) | ((with_reducible refine Below.setCell ?_ ?_ _); rotate_left; (first | omega | (simp <;> omega))) | (with_reducible refine below_drewN ?_ _) | (with_reducible refine Below.drew ?_) | ((with_reducible refine Below.step (by assumption) ?_ ?_); rotate_left; (first | omega | (simp <;> omega))))) (by first | omega | (simp <;> omega))); clear hb1) | fail)
    go_region_held3 (fun w' => w'.cell? ⟨w.heap.size, 0, none⟩ = some (.int .i64 log) ∧ w'.cell? ⟨w.heap.size, 1, none⟩ = some (.slice A l.length c))
      (first | go_keep | ((try dsimp only); refine ⟨?_, ?_⟩ <;> (go_simp; done)))
      (first | (go_at_call 32; (with_reducible refine (HN.out _ (by repeat (first | (with_reducible exact Below.refl _ _) | (with_reducible exact HB1.out) | (with_reducible assumption) | ((with_reducible refine Below.alloc ?_ ?_ _); rotate_left; (first | omega | (simp <;> omega))) | ((with_reducible refine Below.setCell ?_ ?_ _); rotate_left; (first | omega | (simp <;> omega))) | (with_reducible refine below_drewN ?_ _) | (with_reducible refine Below.drew ?_) | ((with_reducible refine Below.step (by assumption) ?_ ?_); rotate_left; (first | omega | (simp <;> omega)))))).mono ?_); rintro e wA ⟨rfl, hbA⟩; have hzA := hbA.size; (try simp at hzA); (refine with_box hbA (w.heap.size) ?_ ?_; (first | omega | (simp <;> omega)); intro n0 nf0 nz0)) | (go_at_call 87; (with_reducible refine (HF.out _ (by repeat (first | (with_reducible exact Below.refl _ _) | (with_reducible exact HB1.out) | (with_reducible assumption) | ((with_reducible refine Below.alloc ?_ ?_ _); rotate_left; (first | omega | (simp <;> omega))) | ((with_reducible refine Below.setCell ?_ ?_ _); rotate_left; (first | omega | (simp <;> omega))) | (with_reducible refine below_drewN ?_ _) | (with_reducible refine Below.drew ?_) | ((with_reducible refine Below.step (by assumption) ?_ ?_); rotate_left; (first | omega | (simp <;> omega)))))).mono ?_); rintro e wB ⟨rfl, hbB⟩; have hzB := hbB.size; (try simp at hzB); (refine with_box hbB (w.heap.size) ?_ ?_; (first | omega | (simp <;> omega)); intro m0 mf0 mz0)) | fail)
    all_goals
      go_wp2_with fail
      go_ret
      refine ⟨?_, (by repeat (first | (with_reducible exact Below.refl _ _) | (with_reducible exact HB1.out) | (with_reducible assumption) | ((with_reducible refine Below.alloc ?_ ?_ _); rotate_left; (first | omega | (simp <;> omega))) | ((with_reducible refine Below.setCell ?_ ?_ _); rotate_left; (first | omega | (simp <;> omega))) | (with_reducible refine below_drewN ?_ _) | (with_reducible refine Below.drew ?_) | ((with_reducible refine Below.step (by assumption) ?_ ?_); rotate_left; (first | omega | (simp <;> omega)))))⟩
      first
        | (try rw [if_pos rfl]); rw [HT.out]; show Ending.returned (Value.string ((({ data := X.toArray } : ByteArray) ++ { data := [58].toArray }) ++ { data := Y.toArray })) = _; rw [str_cat, str_cat]
        | fail
end Go.Proofs.YtjipfgadamokaaaGreatDoor
