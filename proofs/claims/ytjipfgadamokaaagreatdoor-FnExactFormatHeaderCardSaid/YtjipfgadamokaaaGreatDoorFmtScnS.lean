/- MADE BY PROGRAM (genfsc.py). FormatScene of the reference and of the program. -/
import Derived.Test.YtjipfgadamokaaaGreatDoorScnW
import Derived.Test.YtjipfgadamokaaaGreatDoorCamW
import Derived.Test.YtjipfgadamokaaaGreatDoorMgG
import Derived.Test.YtjipfgadamokaaaGreatDoorFlatW
import Derived.Deep.RegionHeld3
set_option linter.unusedVariables false
set_option linter.unusedSimpArgs false
namespace Go.Proofs.YtjipfgadamokaaaGreatDoor
open Go.RowKit Go.Lib
set_option maxRecDepth 100000
def linesAt (s : EScene) (k j : Nat) : List (List UInt8) := headL s ++ (s.ps.take k).map shadT ++ (s.ss.take j).map surfT
theorem linesAt_all (s : EScene) : linesAt s s.ps.length s.ss.length = linesOf s := by unfold linesAt linesOf; rw [List.take_length, List.take_length]
theorem linesAt_len {s : EScene} {k j : Nat} (hk : k ≤ s.ps.length) (hj : j ≤ s.ss.length) : (linesAt s k j).length = 3 + k + j := by
  simp only [linesAt, headL, List.length_append, List.length_map, List.length_take, List.length_cons, List.length_nil]; omega
theorem linesAt_shad {s : EScene} {k : Nat} (h : k < s.ps.length) : linesAt s (k + 1) 0 = linesAt s k 0 ++ [shadT s.ps[k]] := by
  unfold linesAt; rw [List.take_succ_eq_append_getElem h, List.map_append]; simp only [List.map_cons, List.map_nil, List.take_zero, List.append_nil, List.append_assoc]
theorem linesAt_surf {s : EScene} {k j : Nat} (h : j < s.ss.length) : linesAt s k (j + 1) = linesAt s k j ++ [surfT s.ss[j]] := by
  unfold linesAt; rw [List.take_succ_eq_append_getElem h, List.map_append]; simp only [List.map_cons, List.map_nil, List.append_assoc]
theorem one_str (b : ByteArray) : ∀ u ∈ [Value.string b], u.oneCell' = true := by
  intro u hu
  obtain rfl : u = Value.string b := by simpa using hu
  rfl
theorem scene_progT {s : EScene} (h : SceneIs s) {k : Nat} (hk : k < s.ps.length) : progF s.ps[k] = progT s.ps[k] := by
  unfold progF; rw [if_pos (checkOk_valid (shadTo_at h.shad hk))]
set_option maxHeartbeats 32000000 in
theorem S_FormatScene {s : EScene} {TA P Q : Option Addr} {tc pc qc : Nat} (w : World) (h : SceneIn w s TA tc P pc Q qc) :
    Calls Tryz.prog 16 #[vScene s TA tc P pc Q qc] w fun e w' => e = .returned (str (sceneT s)) ∧ Below w.heap.size w w' := by
  have H0 := Lib.hid h
  have HVS : Hid (∀ b, sceneOk s = b → ∀ wx, Below w.heap.size w wx → Calls Tryz.prog 15 #[vScene s TA tc P pc Q qc] wx fun e w' => e = .returned (.bool b) ∧ Below wx.heap.size wx w') := Lib.hid (fun b hb wx hbx => by subst hb; exact S_IsValidScene wx (h.step hbx))
  cases hok : sceneOk s with
  | false =>
    have HF : Hid (sceneT s = []) := Lib.hid (by unfold sceneT; rw [hok]; rfl)
    clear h
    go_enter Tryz.func16, Tryz.ntmps16
    go_wp2_with (first | (go_at_call 15; (with_reducible refine (HVS.out false hok _ (by repeat (first | (with_reducible exact Below.refl _ _) | (with_reducible assumption) | ((with_reducible refine Below.alloc ?_ ?_ _); rotate_left; (first | omega | (simp <;> omega))) | ((with_reducible refine Below.setCell ?_ ?_ _); rotate_left; (first | omega | (simp <;> omega))) | (with_reducible refine below_drewN ?_ _) | (with_reducible refine Below.drew ?_) | ((with_reducible refine Below.step (by assumption) ?_ ?_); rotate_left; (first | omega | (simp <;> omega)))))).mono ?_); rintro e w1 ⟨rfl, hb1⟩; have HB1 : Hid (Below w.heap.size w w1) := Lib.hid (Below.step hb1 (by repeat (first | (with_reducible exact Below.refl _ _) | (with_reducible assumption) | ((with_reducible refine Below.alloc ?_ ?_ _); rotate_left; (first | omega | (simp <;> omega))) | ((with_reducible refine Below.setCell ?_ ?_ _); rotate_left; (first | omega | (simp <;> omega))) | (with_reducible refine below_drewN ?_ _) | (with_reducible refine Below.drew ?_) | ((with_reducible refine Below.step (by assumption) ?_ ?_); rotate_left; (first | omega | (simp <;> omega))))) (by first | omega | (simp <;> omega))); clear hb1) | fail)
    go_ret
    exact ⟨by rw [HF.out]; rfl, HB1.out⟩
  | true =>
  have HIS := Lib.hid (sceneIs hok)
  have HF : Hid (sceneT s = join (linesOf s) [10] ++ [10]) := Lib.hid (by unfold sceneT; rw [hok]; rfl)
  have hnp := HIS.out.np
  have hns := HIS.out.ns
  have HCM : Hid (∀ wx, Below w.heap.size w wx → Calls Tryz.prog 39 #[vCamera s.a s.b s.c s.d s.e s.f s.g] wx fun e w' => e = .returned (str (camT s.a s.b s.c s.d s.e s.f s.g)) ∧ Below wx.heap.size wx w') := Lib.hid (fun wx hbx => S_FormatCamera _ _ _ _ _ _ _ wx HIS.out.cam)
  have HTX : Hid (∀ wx, Below w.heap.size w wx → Calls Tryz.prog 40 #[vTexture s.log (.slice TA s.tex.length tc)] wx fun e w' => e = .returned (str (texT s.log s.tex)) ∧ Below wx.heap.size wx w') := Lib.hid (fun wx hbx => by have := S_FormatTexture (log := s.log) wx (RS.step hbx h.tex); rw [if_pos HIS.out.tex] at this; exact this)
  have HNI : Hid (∀ (n : Int) wx, Below w.heap.size w wx → Calls Tryz.prog 30 #[.int .i64 n] wx fun e w' => e = .returned (str (fmtI n)) ∧ Below wx.heap.size wx w') := Lib.hid (fun n wx hbx => S_FormatInt n wx)
  have HPT : Hid (∀ p, validPt p = true → ∀ wx, Below w.heap.size w wx → Calls Tryz.prog 43 #[vPatch p] wx fun e w' => e = .returned (str (patT p)) ∧ Below wx.heap.size wx w') := Lib.hid (fun p hp wx hbx => S_FormatPatch p wx hp)
  have HPR : Hid (∀ {A A2 : Option Addr} {c c2 : Nat} {p : EProg} wx, Below w.heap.size w wx → ProgIn w A c A2 c2 p → p.1.length ≤ 1048576 → p.2.length ≤ 1048576 → Calls Tryz.prog 42 #[vProg A p.1.length c A2 p.2.length c2] wx fun e w' => e = .returned (str (progF p)) ∧ Below wx.heap.size wx w') := Lib.hid (fun wx hbx hp h1 h2 => S_FormatProgram wx (hp.step hbx) h1 h2)
  have HFL : Hid (∀ (l : List UInt8) wx, Below w.heap.size w wx → l.length ≤ 1048576 → Calls Tryz.prog 41 #[str l] wx fun e w' => e = .returned (str (flatT l)) ∧ Below wx.heap.size wx w') := Lib.hid (fun l wx hbx hl => S_l20Flat l wx hl)
  have HX1 := Lib.hid (camT_len s.a s.b s.c s.d s.e s.f s.g)
  have HX2 := Lib.hid (texT_len (log := s.log) (tex_len HIS.out.tex).2.2.1)
  have HX3 := Lib.hid (fmtI_len s.side)
  have HNS := Lib.hid (HNI.out s.side)
  obtain ⟨X1, hX1⟩ : ∃ X, camT s.a s.b s.c s.d s.e s.f s.g = X := ⟨_, rfl⟩
  obtain ⟨X2, hX2⟩ : ∃ X, texT s.log s.tex = X := ⟨_, rfl⟩
  obtain ⟨X3, hX3⟩ : ∃ X, fmtI s.side = X := ⟨_, rfl⟩
  have HHL : Hid (strs (linesAt s 0 0) = [.string ({ data := #[99, 97, 109, 101, 114, 97, 32] } ++ { data := X1.toArray }), .string ({ data := #[116, 101, 120, 116, 117, 114, 101, 32] } ++ { data := X2.toArray }), .string ({ data := #[115, 105, 100, 101, 32] } ++ { data := X3.toArray })]) := Lib.hid (by
    subst hX1; subst hX2; subst hX3
    show strs (headL s ++ [] ++ []) = _
    rw [List.append_nil, List.append_nil]
    show [str _, str _, str _] = [Value.string (({ data := [99, 97, 109, 101, 114, 97, 32].toArray } : ByteArray) ++ _), Value.string (({ data := [116, 101, 120, 116, 117, 114, 101, 32].toArray } : ByteArray) ++ _), Value.string (({ data := [115, 105, 100, 101, 32].toArray } : ByteArray) ++ _)]
    rw [str_cat, str_cat, str_cat])
  rw [hX1] at HCM HX1
  rw [hX2] at HTX HX2
  rw [hX3] at HNS HX3
  have s1 : ¬ 9223372036854775807 < 7 + X1.length := by have := HX1.out; omega
  have s2 : ¬ 9223372036854775807 < 8 + X2.length := by have := HX2.out; omega
  have s3 : ¬ 9223372036854775807 < 5 + X3.length := by have := HX3.out; omega
  have HPZ : Hid (Own (w.alloc (.cells #[.int .i64 s.a, .int .i64 s.b, .int .i64 s.c, .int .i64 s.d, .bool s.e, .int .i64 s.f, .int .i64 s.g, .int .i64 s.log, .slice TA s.tex.length tc, .slice P s.ps.length pc, .slice Q s.ss.length qc, .int .i64 s.side] 38)) w.heap.size 38 [.int .i64 s.a, .int .i64 s.b, .int .i64 s.c, .int .i64 s.d, .bool s.e, .int .i64 s.f, .int .i64 s.g, .int .i64 s.log, .slice TA s.tex.length tc, .slice P s.ps.length pc, .slice Q s.ss.length qc, .int .i64 s.side]) := Lib.hid (Own.new w _ #[_, _, _, _, _, _, _, _, _, _, _, _])
  clear h hX1 hX2 hX3
  go_enter Tryz.func16, Tryz.ntmps16
  go_upto_region 3 with (first | (go_at_call 15; (with_reducible refine (HVS.out true hok _ (by repeat (first | (with_reducible exact Below.refl _ _) | (with_reducible assumption) | ((with_reducible refine Below.alloc ?_ ?_ _); rotate_left; (first | omega | (simp <;> omega))) | ((with_reducible refine Below.setCell ?_ ?_ _); rotate_left; (first | omega | (simp <;> omega))) | (with_reducible refine below_drewN ?_ _) | (with_reducible refine Below.drew ?_) | ((with_reducible refine Below.step (by assumption) ?_ ?_); rotate_left; (first | omega | (simp <;> omega)))))).mono ?_); rintro e w1 ⟨rfl, hb1⟩; have hz1 := hb1.size; (try simp at hz1); have HB1 : Hid (Below w.heap.size w w1) := Lib.hid (Below.step hb1 (by repeat (first | (with_reducible exact Below.refl _ _) | (with_reducible assumption) | ((with_reducible refine Below.alloc ?_ ?_ _); rotate_left; (first | omega | (simp <;> omega))) | ((with_reducible refine Below.setCell ?_ ?_ _); rotate_left; (first | omega | (simp <;> omega))) | (with_reducible refine below_drewN ?_ _) | (with_reducible refine Below.drew ?_) | ((with_reducible refine Below.step (by assumption) ?_ ?_); rotate_left; (first | omega | (simp <;> omega))))) (by first | omega | (simp <;> omega))); have HP1 : Hid (Own w1 w.heap.size 38 [.int .i64 s.a, .int .i64 s.b, .int .i64 s.c, .int .i64 s.d, .bool s.e, .int .i64 s.f, .int .i64 s.g, .int .i64 s.log, .slice TA s.tex.length tc, .slice P s.ps.length pc, .slice Q s.ss.length qc, .int .i64 s.side]) := Lib.hid (Own.step hb1 HPZ.out); clear hb1) | fail)
  have t0 : w1.cell? ⟨w.heap.size, 0, none⟩ = some (.int .i64 s.a) := HP1.out.cell 0
  have t1 : w1.cell? ⟨w.heap.size, 1, none⟩ = some (.int .i64 s.b) := HP1.out.cell 1
  have t2 : w1.cell? ⟨w.heap.size, 2, none⟩ = some (.int .i64 s.c) := HP1.out.cell 2
  have t3 : w1.cell? ⟨w.heap.size, 3, none⟩ = some (.int .i64 s.d) := HP1.out.cell 3
  have t4 : w1.cell? ⟨w.heap.size, 4, none⟩ = some (.bool s.e) := HP1.out.cell 4
  have t5 : w1.cell? ⟨w.heap.size, 5, none⟩ = some (.int .i64 s.f) := HP1.out.cell 5
  have t6 : w1.cell? ⟨w.heap.size, 6, none⟩ = some (.int .i64 s.g) := HP1.out.cell 6
  have t7 : w1.cell? ⟨w.heap.size, 7, none⟩ = some (.int .i64 s.log) := HP1.out.cell 7
  have t8 : w1.cell? ⟨w.heap.size, 8, none⟩ = some (.slice TA s.tex.length tc) := HP1.out.cell 8
  have t9 : w1.cell? ⟨w.heap.size, 9, none⟩ = some (.slice P s.ps.length pc) := HP1.out.cell 9
  have t10 : w1.cell? ⟨w.heap.size, 10, none⟩ = some (.slice Q s.ss.length qc) := HP1.out.cell 10
  have t11 : w1.cell? ⟨w.heap.size, 11, none⟩ = some (.int .i64 s.side) := HP1.out.cell 11
  clear HVS HPZ
  go_cut [3] (fun s3 wx => ∃ B, s3 = .slice (some ⟨B, 0, none⟩) 3 3 ∧ Grow wx (w.heap.size + 1) 9 1 (some ⟨B, 0, none⟩) 3 3 (strs (linesAt s 0 0)) ∧ Own wx w.heap.size 38 [.int .i64 s.a, .int .i64 s.b, .int .i64 s.c, .int .i64 s.d, .bool s.e, .int .i64 s.f, .int .i64 s.g, .int .i64 s.log, .slice TA s.tex.length tc, .slice P s.ps.length pc, .slice Q s.ss.length qc, .int .i64 s.side] ∧ Below w.heap.size w wx)
  case first =>
    go_region_held3 (fun w' => w'.cell? ⟨w.heap.size, 0, none⟩ = some (.int .i64 s.a) ∧ w'.cell? ⟨w.heap.size, 1, none⟩ = some (.int .i64 s.b) ∧ w'.cell? ⟨w.heap.size, 2, none⟩ = some (.int .i64 s.c) ∧ w'.cell? ⟨w.heap.size, 3, none⟩ = some (.int .i64 s.d) ∧ w'.cell? ⟨w.heap.size, 4, none⟩ = some (.bool s.e) ∧ w'.cell? ⟨w.heap.size, 5, none⟩ = some (.int .i64 s.f) ∧ w'.cell? ⟨w.heap.size, 6, none⟩ = some (.int .i64 s.g) ∧ w'.cell? ⟨w.heap.size, 7, none⟩ = some (.int .i64 s.log) ∧ w'.cell? ⟨w.heap.size, 8, none⟩ = some (.slice TA s.tex.length tc) ∧ w'.cell? ⟨w.heap.size, 11, none⟩ = some (.int .i64 s.side))
      (first | go_keep | ((try dsimp only); refine ⟨?_, ?_, ?_, ?_, ?_, ?_, ?_, ?_, ?_, ?_⟩ <;> (go_simp; done)))
      (first | (go_at_call 39; (with_reducible refine (HCM.out _ (by repeat (first | (with_reducible exact Below.refl _ _) | (with_reducible exact HB1.out) | (with_reducible assumption) | ((with_reducible refine Below.alloc ?_ ?_ _); rotate_left; (first | omega | (simp <;> omega))) | ((with_reducible refine Below.setCell ?_ ?_ _); rotate_left; (first | omega | (simp <;> omega))) | (with_reducible refine below_drewN ?_ _) | (with_reducible refine Below.drew ?_) | ((with_reducible refine Below.step (by assumption) ?_ ?_); rotate_left; (first | omega | (simp <;> omega)))))).mono ?_); rintro e wA ⟨rfl, hbA⟩; have hzA := hbA.size; (try simp at hzA); (refine with_box hbA (w.heap.size) ?_ ?_; (first | omega | (simp <;> omega)); intro n0 nf0 nz0)) | (go_at_call 40; (with_reducible refine (HTX.out _ (by repeat (first | (with_reducible exact Below.refl _ _) | (with_reducible exact HB1.out) | (with_reducible assumption) | ((with_reducible refine Below.alloc ?_ ?_ _); rotate_left; (first | omega | (simp <;> omega))) | ((with_reducible refine Below.setCell ?_ ?_ _); rotate_left; (first | omega | (simp <;> omega))) | (with_reducible refine below_drewN ?_ _) | (with_reducible refine Below.drew ?_) | ((with_reducible refine Below.step (by assumption) ?_ ?_); rotate_left; (first | omega | (simp <;> omega)))))).mono ?_); rintro e wB ⟨rfl, hbB⟩; have hzB := hbB.size; (try simp at hzB); (refine with_box hbB (w.heap.size) ?_ ?_; (first | omega | (simp <;> omega)); intro m0 mf0 mz0)) | (go_at_call 30; (with_reducible refine (HNS.out _ (by repeat (first | (with_reducible exact Below.refl _ _) | (with_reducible exact HB1.out) | (with_reducible assumption) | ((with_reducible refine Below.alloc ?_ ?_ _); rotate_left; (first | omega | (simp <;> omega))) | ((with_reducible refine Below.setCell ?_ ?_ _); rotate_left; (first | omega | (simp <;> omega))) | (with_reducible refine below_drewN ?_ _) | (with_reducible refine Below.drew ?_) | ((with_reducible refine Below.step (by assumption) ?_ ?_); rotate_left; (first | omega | (simp <;> omega)))))).mono ?_); rintro e wC ⟨rfl, hbC⟩; have hzC := hbC.size; (try simp at hzC); (refine with_box hbC (w.heap.size) ?_ ?_; (first | omega | (simp <;> omega)); intro q0 qf0 qz0)) | fail)
    all_goals
      go_wp2_with fail
      go_meet
      refine ⟨_, rfl, ?_, (by repeat (first | (with_reducible exact HP1.out) | ((with_reducible refine Own.far ?_ ?_ _); rotate_left; (first | omega | (simp <;> omega))) | (with_reducible refine Own.alloc ?_ _) | (with_reducible refine Own.drewN ?_ _) | (with_reducible refine Own.drew ?_) | (with_reducible refine Own.step (by assumption) ?_))), (by repeat (first | (with_reducible exact Below.refl _ _) | (with_reducible exact HB1.out) | (with_reducible assumption) | ((with_reducible refine Below.alloc ?_ ?_ _); rotate_left; (first | omega | (simp <;> omega))) | ((with_reducible refine Below.setCell ?_ ?_ _); rotate_left; (first | omega | (simp <;> omega))) | (with_reducible refine below_drewN ?_ _) | (with_reducible refine Below.drew ?_) | ((with_reducible refine Below.step (by assumption) ?_ ?_); rotate_left; (first | omega | (simp <;> omega)))))⟩
      rw [HHL.out]
      repeat (first | (with_reducible refine Grow.drewN ?_ _) | (with_reducible refine Grow.drew ?_) | (refine Grow.lit_at (cs := #[_, _, _]) (by first | rfl | simp) (by rfl) ?_ (by decide)))
      all_goals (first | omega | (simp <;> omega))
  case rest =>
  obtain ⟨B0, rfl, hg0, hp0, hb0⟩ := hcut
  have HG0 := Lib.hid hg0
  have HP0 := Lib.hid hp0
  have HB0 := Lib.hid hb0
  have u0 : wc.cell? ⟨w.heap.size, 0, none⟩ = some (.int .i64 s.a) := hp0.cell 0
  have u1 : wc.cell? ⟨w.heap.size, 1, none⟩ = some (.int .i64 s.b) := hp0.cell 1
  have u2 : wc.cell? ⟨w.heap.size, 2, none⟩ = some (.int .i64 s.c) := hp0.cell 2
  have u3 : wc.cell? ⟨w.heap.size, 3, none⟩ = some (.int .i64 s.d) := hp0.cell 3
  have u4 : wc.cell? ⟨w.heap.size, 4, none⟩ = some (.bool s.e) := hp0.cell 4
  have u5 : wc.cell? ⟨w.heap.size, 5, none⟩ = some (.int .i64 s.f) := hp0.cell 5
  have u6 : wc.cell? ⟨w.heap.size, 6, none⟩ = some (.int .i64 s.g) := hp0.cell 6
  have u7 : wc.cell? ⟨w.heap.size, 7, none⟩ = some (.int .i64 s.log) := hp0.cell 7
  have u8 : wc.cell? ⟨w.heap.size, 8, none⟩ = some (.slice TA s.tex.length tc) := hp0.cell 8
  have u9 : wc.cell? ⟨w.heap.size, 9, none⟩ = some (.slice P s.ps.length pc) := hp0.cell 9
  have u10 : wc.cell? ⟨w.heap.size, 10, none⟩ = some (.slice Q s.ss.length qc) := hp0.cell 10
  have u11 : wc.cell? ⟨w.heap.size, 11, none⟩ = some (.int .i64 s.side) := hp0.cell 11
  clear hg0 hp0 hb0 HP1 HB1 HHL
  go_wp2_with fail
  go_loopw [3, 5, 27] (fun ls _ i wr => ∃ (k : Nat) (B : Option Addr) (d : Nat), k ≤ s.ps.length ∧ i = .int .i64 k ∧ ls = .slice B (3 + k) d ∧ Grow wr (w.heap.size + 1) 9 1 B (3 + k) d (strs (linesAt s k 0)) ∧ Own wr w.heap.size 38 [.int .i64 s.a, .int .i64 s.b, .int .i64 s.c, .int .i64 s.d, .bool s.e, .int .i64 s.f, .int .i64 s.g, .int .i64 s.log, .slice TA s.tex.length tc, .slice P s.ps.length pc, .slice Q s.ss.length qc, .int .i64 s.side] ∧ Below w.heap.size w wr) (fun _ _ i _ => s.ps.length - (RowKit.intOf i).toNat)
  case atStart => exact ⟨0, _, _, Nat.zero_le _, rfl, rfl, HG0.out, HP0.out, HB0.out⟩
  case round =>
    obtain ⟨k, B, d, hk, rfl, rfl, hg, hp, hb⟩ := hrel
    obtain ⟨wo, rfl⟩ : ∃ wo, wo = wr := ⟨_, rfl⟩
    have hz := hb.size
    have hl := hp.lt
    have hgl := hg.lt
    have hgg := hg.ge
    have HG := Lib.hid hg
    have HP := Lib.hid hp
    have HB := Lib.hid hb
    have y9 : wo.cell? ⟨w.heap.size, 9, none⟩ = some (.slice P s.ps.length pc) := hp.cell 9
    have y10 : wo.cell? ⟨w.heap.size, 10, none⟩ = some (.slice Q s.ss.length qc) := hp.cell 10
    clear hg hp hb HG0 HP0 HB0
    by_cases hlt : k < s.ps.length
    · obtain ⟨b, o, A1, c1, A2, c2, rfl, hbh, hpi, hn1, hn2, x0, x1⟩ := H0.out.ps.2.2 k hlt
      have z0 := (HB.out.cell (p := ⟨b, o + k * 2, none⟩) hbh).trans x0
      have z1 := (HB.out.cell (p := ⟨b, o + k * 2 + 1, none⟩) hbh).trans x1
      have HLS := Lib.hid (linesAt_shad hlt)
      have HPE := Lib.hid (scene_progT HIS.out hlt)
      have HPL := Lib.hid (progT_len (checkOk_valid (shadTo_at HIS.out.shad hlt)))
      obtain ⟨x, hx⟩ : ∃ x, s.ps[k] = x := ⟨_, rfl⟩
      rw [hx] at z0 z1 HLS HPE HPL hpi hn1 hn2
      have HC : Hid (∀ wx, Below w.heap.size w wx → Calls Tryz.prog 42 #[vProg A1 x.1.length c1 A2 x.2.length c2] wx fun e w' => e = .returned (str (progT x)) ∧ Below wx.heap.size wx w') := Lib.hid (fun wx hbx => by rw [← HPE.out]; exact HPR.out wx hbx hpi hn1 hn2)
      have HC2 : Hid (∀ wx, Below w.heap.size w wx → Calls Tryz.prog 41 #[str (progT x)] wx fun e w' => e = .returned (str (flatT (progT x))) ∧ Below wx.heap.size wx w') := Lib.hid (fun wx hbx => HFL.out _ wx hbx (by have := HPL.out; omega))
      have HFT : Hid ((flatT (progT x)).length ≤ 51180) := Lib.hid (by rw [flatT_len]; exact HPL.out)
      have HS : Hid (strs (linesAt s (k + 1) 0) = strs (linesAt s k 0) ++ [.string ({ data := #[115, 104, 97, 100, 101, 114, 32] } ++ { data := (flatT (progT x)).toArray })]) := Lib.hid (by
        rw [HLS.out, ← strs_snoc]
        show _ = strs (linesAt s k 0) ++ [Value.string (({ data := [115, 104, 97, 100, 101, 114, 32].toArray } : ByteArray) ++ _)]
        rw [str_cat]; rfl)
      generalize flatT (progT x) = Y at *
      have s4 : ¬ 9223372036854775807 < 7 + Y.length := by have := HFT.out; omega
      have j1 : (k : Int) < s.ps.length := by omega
      have j2 : (0 : Int) ≤ k := by omega
      have hwn : ¬ wo.heap.size = w.heap.size := by omega
      clear hpi hx x0 x1
      go_wp2_with (first | (go_at_call 42; (with_reducible refine (HC.out _ (by repeat (first | (with_reducible exact Below.refl _ _) | (with_reducible exact HB.out) | (with_reducible assumption) | ((with_reducible refine Below.alloc ?_ ?_ _); rotate_left; (first | omega | (simp <;> omega))) | ((with_reducible refine Below.setCell ?_ ?_ _); rotate_left; (first | omega | (simp <;> omega))) | (with_reducible refine below_drewN ?_ _) | (with_reducible refine Below.drew ?_) | ((with_reducible refine Below.step (by assumption) ?_ ?_); rotate_left; (first | omega | (simp <;> omega)))))).mono ?_); rintro e wA ⟨rfl, hbA⟩; have hzA := hbA.size; (try simp at hzA); have HBA : Hid (Below w.heap.size w wA) := Lib.hid (Below.step hbA (by repeat (first | (with_reducible exact Below.refl _ _) | (with_reducible exact HB.out) | (with_reducible assumption) | ((with_reducible refine Below.alloc ?_ ?_ _); rotate_left; (first | omega | (simp <;> omega))) | ((with_reducible refine Below.setCell ?_ ?_ _); rotate_left; (first | omega | (simp <;> omega))) | (with_reducible refine below_drewN ?_ _) | (with_reducible refine Below.drew ?_) | ((with_reducible refine Below.step (by assumption) ?_ ?_); rotate_left; (first | omega | (simp <;> omega))))) (by first | omega | (simp <;> omega))); have HPA : Hid (Own wA w.heap.size 38 [.int .i64 s.a, .int .i64 s.b, .int .i64 s.c, .int .i64 s.d, .bool s.e, .int .i64 s.f, .int .i64 s.g, .int .i64 s.log, .slice TA s.tex.length tc, .slice (some ⟨b, o, none⟩) s.ps.length pc, .slice Q s.ss.length qc, .int .i64 s.side]) := Lib.hid (Own.step hbA (by repeat (first | (with_reducible exact HP.out) | ((with_reducible refine Own.far ?_ ?_ _); rotate_left; (first | omega | (simp <;> omega))) | (with_reducible refine Own.alloc ?_ _) | (with_reducible refine Own.drewN ?_ _) | (with_reducible refine Own.drew ?_) | (with_reducible refine Own.step (by assumption) ?_)))); have HGA : Hid (Grow wA (w.heap.size + 1) 9 1 B (3 + k) d (strs (linesAt s k 0))) := Lib.hid (Grow.step hbA (by repeat (first | (with_reducible exact HG.out) | (with_reducible refine Grow.alloc ?_ _) | (with_reducible refine Grow.drewN ?_ _) | (with_reducible refine Grow.drew ?_) | ((with_reducible refine Grow.far ?_ ?_ _); rotate_left; (first | omega | (simp <;> omega))) | (with_reducible refine Grow.step (by assumption) ?_)))); clear hbA) | (go_at_call 41; (with_reducible refine (HC2.out _ HBA.out).mono ?_); rintro e wB ⟨rfl, hbB⟩; have hzB := hbB.size; (try simp at hzB); have HBB : Hid (Below w.heap.size w wB) := Lib.hid (Below.step hbB HBA.out HBA.out.size); have HPB : Hid (Own wB w.heap.size 38 [.int .i64 s.a, .int .i64 s.b, .int .i64 s.c, .int .i64 s.d, .bool s.e, .int .i64 s.f, .int .i64 s.g, .int .i64 s.log, .slice TA s.tex.length tc, .slice (some ⟨b, o, none⟩) s.ps.length pc, .slice Q s.ss.length qc, .int .i64 s.side]) := Lib.hid (Own.step hbB HPA.out); have HGB : Hid (Grow wB (w.heap.size + 1) 9 1 B (3 + k) d (strs (linesAt s k 0))) := Lib.hid (Grow.step hbB HGA.out); clear hbB) | (at_builtin; refine wpList_app (by rfl) _ _ 85 (by rfl) (w.heap.size + 1) 9 (.string ByteArray.empty) 1 16 Tryz.underlying85 T.infoString rfl (by decide) (xs := strs (linesAt s k 0)) (by rfl) ?_ (ys := [.string ({ data := #[115, 104, 97, 100, 101, 114, 32] } ++ { data := Y.toArray })]) (by rfl) ?_ (one_str _) ?_ ?_ ?_ ?_; (exact (by repeat (first | (with_reducible exact HGB.out) | (with_reducible refine Grow.alloc ?_ _) | (with_reducible refine Grow.drewN ?_ _) | (with_reducible refine Grow.drew ?_) | ((with_reducible refine Grow.far ?_ ?_ _); rotate_left; (first | omega | (simp <;> omega))) | (with_reducible refine Grow.step (by assumption) ?_)))); (exact (Grow.rs (base := 0) (n := 1) (c := 1) (by repeat (first | (with_reducible refine Grow.drewN ?_ _) | (with_reducible refine Grow.drew ?_) | (refine Grow.lit_at (by simp) (by rfl) (Nat.zero_le _) (by unfold maxLen; omega)))))); (unfold maxLen; omega); (omega); (first | omega | (simp <;> omega)); rintro A' c' w2 gA; have g1 := gA.1; have g2 := gA.2.1; rw [← HS.out] at g1; have HG1 := Lib.hid g1; have HB2 : Hid (Below w.heap.size w w2) := Lib.hid (Below.trans (Below.alloc HBB.out (by omega) _) (g2.mono (by omega))); have HP2 : Hid (Own w2 w.heap.size 38 [.int .i64 s.a, .int .i64 s.b, .int .i64 s.c, .int .i64 s.d, .bool s.e, .int .i64 s.f, .int .i64 s.g, .int .i64 s.log, .slice TA s.tex.length tc, .slice (some ⟨b, o, none⟩) s.ps.length pc, .slice Q s.ss.length qc, .int .i64 s.side]) := Lib.hid (Own.below (Own.alloc HPB.out _) g2 (by omega)); clear gA g1 g2) | fail)
      go_roundw
      case rel => exact ⟨k + 1, _, _, by omega, by go_num, rfl, HG1.out, HP2.out, HB2.out⟩
      case measure => simp [RowKit.intOf] <;> omega
    · obtain rfl : k = s.ps.length := by omega
      go_wp2_with fail
      go_loopw [3, 7, 42] (fun ls _ i wr => ∃ (j : Nat) (B : Option Addr) (d : Nat), j ≤ s.ss.length ∧ i = .int .i64 j ∧ ls = .slice B (3 + s.ps.length + j) d ∧ Grow wr (w.heap.size + 1) 9 1 B (3 + s.ps.length + j) d (strs (linesAt s s.ps.length j)) ∧ Own wr w.heap.size 38 [.int .i64 s.a, .int .i64 s.b, .int .i64 s.c, .int .i64 s.d, .bool s.e, .int .i64 s.f, .int .i64 s.g, .int .i64 s.log, .slice TA s.tex.length tc, .slice P s.ps.length pc, .slice Q s.ss.length qc, .int .i64 s.side] ∧ Below w.heap.size w wr) (fun _ _ i _ => s.ss.length - (RowKit.intOf i).toNat)
      case atStart => exact ⟨0, _, _, Nat.zero_le _, rfl, rfl, HG.out, HP.out, HB.out⟩
      case round =>
        clear hz hl hgl hgg
        obtain ⟨j, B2, d2, hj, rfl, rfl, hg, hp, hb⟩ := hrel
        obtain ⟨wi, rfl⟩ : ∃ wi, wi = wr := ⟨_, rfl⟩
        have hz := hb.size
        have hl := hp.lt
        have hgl := hg.lt
        have hgg := hg.ge
        have HG3 := Lib.hid hg
        have HP3 := Lib.hid hp
        have HB3 := Lib.hid hb
        have q10 : wi.cell? ⟨w.heap.size, 10, none⟩ = some (.slice Q s.ss.length qc) := hp.cell 10
        clear hg hp hb y9 y10
        by_cases hlj : j < s.ss.length
        · obtain ⟨b, o, rfl, hbh, hsf⟩ := H0.out.ss.2.2 j hlj
          have hsw := hsf.below HB3.out hbh
          have HLS := Lib.hid (linesAt_surf (k := s.ps.length) hlj)
          have HSO := Lib.hid (surfsTo_at HIS.out.surf hlj)
          obtain ⟨⟨p, q, sh, rt⟩, hx⟩ : ∃ x, s.ss[j] = x := ⟨_, rfl⟩
          rw [hx] at hsw HLS HSO
          (try dsimp only at hsw)
          have hso := HSO.out
          rw [surfOk_def] at hso
          simp only [Bool.and_eq_true] at hso
          have HV1 := Lib.hid hso.1
          have HV2 := Lib.hid hso.2.1
          obtain ⟨w1', w2', V, hV, hld, hal, hst, hlv, hz3, hbw, how⟩ := surf_box hsw
          have HLD := Lib.hid hld
          have HAL := Lib.hid hal
          have HST := Lib.hid hst
          have HOW := Lib.hid how
          have HBW : Hid (Below w.heap.size w w2') := Lib.hid (Below.step hbw HB3.out HB3.out.size)
          have HPW : Hid (Own w2' w.heap.size 38 [.int .i64 s.a, .int .i64 s.b, .int .i64 s.c, .int .i64 s.d, .bool s.e, .int .i64 s.f, .int .i64 s.g, .int .i64 s.log, .slice TA s.tex.length tc, .slice P s.ps.length pc, .slice (some ⟨b, o, none⟩) s.ss.length qc, .int .i64 s.side]) := Lib.hid (Own.step hbw HP3.out)
          have HGW : Hid (Grow w2' (w.heap.size + 1) 9 1 B2 (3 + s.ps.length + j) d2 (strs (linesAt s s.ps.length j))) := Lib.hid (Grow.step hbw HG3.out)
          have HC1 : Hid (∀ wx, Below w.heap.size w wx → Calls Tryz.prog 30 #[.int .i64 sh] wx fun e w' => e = .returned (str (fmtI sh)) ∧ Below wx.heap.size wx w') := Lib.hid (HNI.out sh)
          have HC2 : Hid (∀ wx, Below w.heap.size w wx → Calls Tryz.prog 30 #[.int .i64 rt] wx fun e w' => e = .returned (str (fmtI rt)) ∧ Below wx.heap.size wx w') := Lib.hid (HNI.out rt)
          have HC3 : Hid (∀ wx, Below w.heap.size w wx → Calls Tryz.prog 43 #[vPatch p] wx fun e w' => e = .returned (str (patT p)) ∧ Below wx.heap.size wx w') := Lib.hid (HPT.out p HV1.out)
          have HC4 : Hid (∀ wx, Below w.heap.size w wx → Calls Tryz.prog 43 #[vPatch q] wx fun e w' => e = .returned (str (patT q)) ∧ Below wx.heap.size wx w') := Lib.hid (HPT.out q HV2.out)
          have HL1 := Lib.hid (fmtI_len sh)
          have HL2 := Lib.hid (fmtI_len rt)
          have HL3 := Lib.hid (patT_len p)
          have HL4 := Lib.hid (patT_len q)
          have HSF : Hid (surfT (p, q, sh, rt) = [115, 117, 114, 102, 97, 99, 101, 32] ++ fmtI sh ++ [32] ++ fmtI rt ++ [32] ++ patT p ++ [32] ++ patT q) := Lib.hid rfl
          have HSJ : Hid (surfT (p, q, sh, rt) = join [[115, 117, 114, 102, 97, 99, 101], fmtI sh, fmtI rt, patT p, patT q] [32]) := Lib.hid (surfT_join (p, q, sh, rt)).symm
          have HTL := Lib.hid (surfT_len (p, q, sh, rt))
          obtain ⟨Y, hY⟩ : ∃ Y, surfT (p, q, sh, rt) = Y := ⟨_, rfl⟩
          rw [hY] at HSF HSJ HTL HLS
          have HS : Hid (strs (linesAt s s.ps.length (j + 1)) = strs (linesAt s s.ps.length j) ++ [str Y]) := Lib.hid (by rw [HLS.out, ← strs_snoc]; rfl)
          generalize hG : wi.heap.size = G at *
          obtain ⟨F1, hF1⟩ : ∃ F, fmtI sh = F := ⟨_, rfl⟩
          obtain ⟨F2, hF2⟩ : ∃ F, fmtI rt = F := ⟨_, rfl⟩
          obtain ⟨F3, hF3⟩ : ∃ F, patT p = F := ⟨_, rfl⟩
          obtain ⟨F4, hF4⟩ : ∃ F, patT q = F := ⟨_, rfl⟩
          rw [hF1] at HC1 HL1
          rw [hF2] at HC2 HL2
          rw [hF3] at HC3 HL3
          rw [hF4] at HC4 HL4
          rw [hF1, hF2, hF3, hF4] at HSF HSJ
          have hl1 : F1.length ≤ 11 := HL1.out
          have hl2 : F2.length ≤ 11 := HL2.out
          have hl3 : F3.length ≤ 147 := HL3.out
          have hl4 : F4.length ≤ 147 := HL4.out
          have a1 : ¬ 9223372036854775807 < 8 + F1.length := by omega
          have a2 : ¬ 9223372036854775807 < 8 + F1.length + 1 := by omega
          have a3 : ¬ 9223372036854775807 < 8 + F1.length + 1 + F2.length := by omega
          have a4 : ¬ 9223372036854775807 < 8 + F1.length + 1 + F2.length + 1 := by omega
          have a5 : ¬ 9223372036854775807 < 8 + F1.length + 1 + F2.length + 1 + F3.length := by omega
          have a6 : ¬ 9223372036854775807 < 8 + F1.length + 1 + F2.length + 1 + F3.length + 1 := by omega
          have a7 : ¬ 9223372036854775807 < 8 + F1.length + 1 + F2.length + 1 + F3.length + 1 + F4.length := by omega
          have j1 : (j : Int) < s.ss.length := by omega
          have j2 : (0 : Int) ≤ j := by omega
          have hGw : w.heap.size < G := by omega
          clear hsf hsw hx hV hld hal hst hlv hbw how hso hY hF1 hF2 hF3 hF4 hl1 hl2 hl3 hl4
          go_upto_region 12 with (first | (refine wpList_loadE rfl 79 (.tmp 44) rfl rfl HLD.out ?_) | (refine wpList_allocE rfl 79 rfl HAL.out ?_) | (refine wpList_storeE rfl 79 (.tmp 7) (.tmp 45) rfl rfl rfl HST.out ?_) | fail)
          refine wp_region_held_drew (S := fun w' => ∀ (m : Nat) (v : Value), (cSurf p q sh rt)[m]? = some v → w'.cell? ⟨G, m, none⟩ = some v) (by kernel_rfl) ?_ (fun hHeld1 => ?_)
          · exact fun m v hv => (HOW.out.cell m).trans hv
          (refine wpAnyH_take (i := 0) (v := ?_) rfl (by kernel_rfl) (by kernel_rfl) (by kernel_rfl) (fun _ _ _ h => h) (Or.inl ⟨by rfl, ?_⟩) (by assumption) ?_; rotate_left; focus (intro w hSw; (try dsimp only at hSw); go_simp; try with_reducible rfl)); (try simp only [List.getElem_toArray, List.getElem_cons_succ, List.getElem_cons_zero, Act.put, List.setIfInBounds_toArray, List.set_cons_zero, List.set_cons_succ])
          (refine wpAnyH_take (i := 1) (v := ?_) rfl (by kernel_rfl) (by kernel_rfl) (by kernel_rfl) (fun _ _ _ h => h) (Or.inl ⟨by rfl, ?_⟩) (by assumption) ?_; rotate_left; focus (intro w hSw; (try dsimp only at hSw); go_simp; try with_reducible rfl)); (try simp only [List.getElem_toArray, List.getElem_cons_succ, List.getElem_cons_zero, Act.put, List.setIfInBounds_toArray, List.set_cons_zero, List.set_cons_succ])
          (refine wpAnyH_take (i := 2) (v := ?_) rfl (by kernel_rfl) (by kernel_rfl) (by kernel_rfl) (fun _ _ _ h => h) (Or.inl ⟨by rfl, ?_⟩) (by assumption) ?_; rotate_left; focus (intro w hSw; (try dsimp only at hSw); have e24 := hSw 24 _ rfl; (try simp only [Nat.zero_add] at *); go_simp; try with_reducible rfl)); (try simp only [List.getElem_toArray, List.getElem_cons_succ, List.getElem_cons_zero, Act.put, List.setIfInBounds_toArray, List.set_cons_zero, List.set_cons_succ])
          (refine wpAnyH_take (i := 6) (v := ?_) rfl (by kernel_rfl) (by kernel_rfl) (by kernel_rfl) (fun _ _ _ h => h) (Or.inl ⟨by rfl, ?_⟩) (by assumption) ?_; rotate_left; focus (intro w hSw; (try dsimp only at hSw); go_simp; try with_reducible rfl)); (try simp only [List.getElem_toArray, List.getElem_cons_succ, List.getElem_cons_zero, Act.put, List.setIfInBounds_toArray, List.set_cons_zero, List.set_cons_succ])
          (refine wpAnyH_take (i := 7) (v := ?_) rfl (by kernel_rfl) (by kernel_rfl) (by kernel_rfl) (fun _ _ _ h => h) (Or.inl ⟨by rfl, ?_⟩) (by assumption) ?_; rotate_left; focus (intro w hSw; (try dsimp only at hSw); have e25 := hSw 25 _ rfl; (try simp only [Nat.zero_add] at *); go_simp; try with_reducible rfl)); (try simp only [List.getElem_toArray, List.getElem_cons_succ, List.getElem_cons_zero, Act.put, List.setIfInBounds_toArray, List.set_cons_zero, List.set_cons_succ])
          (refine wpAnyH_take (i := 11) (v := ?_) rfl (by kernel_rfl) (by kernel_rfl) (by kernel_rfl) (fun _ _ _ h => h) (Or.inl ⟨by rfl, ?_⟩) (by assumption) ?_; rotate_left; focus (intro w hSw; (try dsimp only at hSw); go_simp; try with_reducible rfl)); (try simp only [List.getElem_toArray, List.getElem_cons_succ, List.getElem_cons_zero, Act.put, List.setIfInBounds_toArray, List.set_cons_zero, List.set_cons_succ])
          (refine wpAnyH_take (i := 12) (v := ?_) rfl (by kernel_rfl) (by kernel_rfl) (by kernel_rfl) (fun _ _ _ h => h) (Or.inl ⟨by rfl, ?_⟩) (by assumption) ?_; rotate_left; focus (intro w hSw; (try dsimp only at hSw); have e0 := hSw 0 _ rfl; have e1 := hSw 1 _ rfl; have e2 := hSw 2 _ rfl; have e3 := hSw 3 _ rfl; have e4 := hSw 4 _ rfl; have e5 := hSw 5 _ rfl; have e6 := hSw 6 _ rfl; have e7 := hSw 7 _ rfl; have e8 := hSw 8 _ rfl; have e9 := hSw 9 _ rfl; have e10 := hSw 10 _ rfl; have e11 := hSw 11 _ rfl; (try simp only [Nat.zero_add] at *); go_simp; try with_reducible rfl)); (try simp only [List.getElem_toArray, List.getElem_cons_succ, List.getElem_cons_zero, Act.put, List.setIfInBounds_toArray, List.set_cons_zero, List.set_cons_succ])
          (refine wpAnyH_take (i := 16) (v := ?_) rfl (by kernel_rfl) (by kernel_rfl) (by kernel_rfl) (fun _ _ _ h => h) (Or.inl ⟨by rfl, ?_⟩) (by assumption) ?_; rotate_left; focus (intro w hSw; (try dsimp only at hSw); go_simp; try with_reducible rfl)); (try simp only [List.getElem_toArray, List.getElem_cons_succ, List.getElem_cons_zero, Act.put, List.setIfInBounds_toArray, List.set_cons_zero, List.set_cons_succ])
          (refine wpAnyH_take (i := 17) (v := ?_) rfl (by kernel_rfl) (by kernel_rfl) (by kernel_rfl) (fun _ _ _ h => h) (Or.inl ⟨by rfl, ?_⟩) (by assumption) ?_; rotate_left; focus (intro w hSw; (try dsimp only at hSw); have e12 := hSw 12 _ rfl; have e13 := hSw 13 _ rfl; have e14 := hSw 14 _ rfl; have e15 := hSw 15 _ rfl; have e16 := hSw 16 _ rfl; have e17 := hSw 17 _ rfl; have e18 := hSw 18 _ rfl; have e19 := hSw 19 _ rfl; have e20 := hSw 20 _ rfl; have e21 := hSw 21 _ rfl; have e22 := hSw 22 _ rfl; have e23 := hSw 23 _ rfl; (try simp only [Nat.zero_add] at *); go_simp; try with_reducible rfl)); (try simp only [List.getElem_toArray, List.getElem_cons_succ, List.getElem_cons_zero, Act.put, List.setIfInBounds_toArray, List.set_cons_zero, List.set_cons_succ])
          refine wpAnyH_ready (rs := [3]) (by kernel_rfl) (by simp) ?_
          refine AllReadyH.cons rfl (fun K hK => ?_) AllReadyH.nil
          go_simp
          (go_at_call 30; (with_reducible refine (HC1.out _ (by repeat (first | (with_reducible exact Below.refl _ _) | (with_reducible exact HBW.out) | (with_reducible assumption) | ((with_reducible refine Below.alloc ?_ ?_ _); rotate_left; (first | omega | (simp <;> omega))) | ((with_reducible refine Below.setCell ?_ ?_ _); rotate_left; (first | omega | (simp <;> omega))) | (with_reducible refine below_drewN ?_ _) | (with_reducible refine Below.drew ?_) | ((with_reducible refine Below.step (by assumption) ?_ ?_); rotate_left; (first | omega | (simp <;> omega)))))).mono ?_); rintro e wA ⟨rfl, hbwA⟩; have hzwA := hbwA.size; (try simp at hzwA); have HBwA : Hid (Below w.heap.size w wA) := Lib.hid (Below.step hbwA (by repeat (first | (with_reducible exact Below.refl _ _) | (with_reducible exact HBW.out) | (with_reducible assumption) | ((with_reducible refine Below.alloc ?_ ?_ _); rotate_left; (first | omega | (simp <;> omega))) | ((with_reducible refine Below.setCell ?_ ?_ _); rotate_left; (first | omega | (simp <;> omega))) | (with_reducible refine below_drewN ?_ _) | (with_reducible refine Below.drew ?_) | ((with_reducible refine Below.step (by assumption) ?_ ?_); rotate_left; (first | omega | (simp <;> omega))))) (by first | omega | (simp <;> omega))); have HPwA : Hid (Own wA w.heap.size 38 [.int .i64 s.a, .int .i64 s.b, .int .i64 s.c, .int .i64 s.d, .bool s.e, .int .i64 s.f, .int .i64 s.g, .int .i64 s.log, .slice TA s.tex.length tc, .slice P s.ps.length pc, .slice (some ⟨b, o, none⟩) s.ss.length qc, .int .i64 s.side]) := Lib.hid (Own.step hbwA (by repeat (first | (with_reducible exact HPW.out) | ((with_reducible refine Own.far ?_ ?_ _); rotate_left; (first | omega | (simp <;> omega))) | (with_reducible refine Own.alloc ?_ _) | (with_reducible refine Own.drewN ?_ _) | (with_reducible refine Own.drew ?_) | (with_reducible refine Own.step (by assumption) ?_)))); have HGwA : Hid (Grow wA (w.heap.size + 1) 9 1 B2 (3 + s.ps.length + j) d2 (strs (linesAt s s.ps.length j))) := Lib.hid (Grow.step hbwA (by repeat (first | (with_reducible exact HGW.out) | (with_reducible refine Grow.alloc ?_ _) | (with_reducible refine Grow.drewN ?_ _) | (with_reducible refine Grow.drew ?_) | ((with_reducible refine Grow.far ?_ ?_ _); rotate_left; (first | omega | (simp <;> omega))) | (with_reducible refine Grow.step (by assumption) ?_)))))
          (try go_wp2_with fail)
          refine hK.out _ _ ?_ (fun hHeld2 => ?_)
          · exact fun m v hv => (hbwA.cell (p := ⟨G, m, none⟩) (by first | omega | (simp <;> omega))).trans (hHeld1 m v hv)
          clear hK K hHeld1
          (try simp only [List.getElem_toArray, List.getElem_cons_succ, List.getElem_cons_zero, Act.put, List.setIfInBounds_toArray, List.set_cons_zero, List.set_cons_succ])
          (refine wpAnyH_take (i := 4) (v := ?_) rfl (by kernel_rfl) (by kernel_rfl) (by kernel_rfl) (fun _ _ _ h => h) (Or.inl ⟨by rfl, ?_⟩) (by assumption) ?_; rotate_left; focus (intro w hSw; (try dsimp only at hSw); go_simp; try with_reducible rfl)); (try simp only [List.getElem_toArray, List.getElem_cons_succ, List.getElem_cons_zero, Act.put, List.setIfInBounds_toArray, List.set_cons_zero, List.set_cons_succ])
          (refine wpAnyH_take (i := 5) (v := ?_) rfl (by kernel_rfl) (by kernel_rfl) (by kernel_rfl) (fun _ _ _ h => h) (Or.inl ⟨by rfl, ?_⟩) (by assumption) ?_; rotate_left; focus (intro w hSw; (try dsimp only at hSw); go_simp; try with_reducible rfl)); (try simp only [List.getElem_toArray, List.getElem_cons_succ, List.getElem_cons_zero, Act.put, List.setIfInBounds_toArray, List.set_cons_zero, List.set_cons_succ])
          refine wpAnyH_ready (rs := [8]) (by kernel_rfl) (by simp) ?_
          refine AllReadyH.cons rfl (fun K hK => ?_) AllReadyH.nil
          go_simp
          (go_at_call 30; (with_reducible refine (HC2.out _ (by repeat (first | (with_reducible exact Below.refl _ _) | (with_reducible exact HBwA.out) | (with_reducible assumption) | ((with_reducible refine Below.alloc ?_ ?_ _); rotate_left; (first | omega | (simp <;> omega))) | ((with_reducible refine Below.setCell ?_ ?_ _); rotate_left; (first | omega | (simp <;> omega))) | (with_reducible refine below_drewN ?_ _) | (with_reducible refine Below.drew ?_) | ((with_reducible refine Below.step (by assumption) ?_ ?_); rotate_left; (first | omega | (simp <;> omega)))))).mono ?_); rintro e wB ⟨rfl, hbwB⟩; have hzwB := hbwB.size; (try simp at hzwB); have HBwB : Hid (Below w.heap.size w wB) := Lib.hid (Below.step hbwB (by repeat (first | (with_reducible exact Below.refl _ _) | (with_reducible exact HBwA.out) | (with_reducible assumption) | ((with_reducible refine Below.alloc ?_ ?_ _); rotate_left; (first | omega | (simp <;> omega))) | ((with_reducible refine Below.setCell ?_ ?_ _); rotate_left; (first | omega | (simp <;> omega))) | (with_reducible refine below_drewN ?_ _) | (with_reducible refine Below.drew ?_) | ((with_reducible refine Below.step (by assumption) ?_ ?_); rotate_left; (first | omega | (simp <;> omega))))) (by first | omega | (simp <;> omega))); have HPwB : Hid (Own wB w.heap.size 38 [.int .i64 s.a, .int .i64 s.b, .int .i64 s.c, .int .i64 s.d, .bool s.e, .int .i64 s.f, .int .i64 s.g, .int .i64 s.log, .slice TA s.tex.length tc, .slice P s.ps.length pc, .slice (some ⟨b, o, none⟩) s.ss.length qc, .int .i64 s.side]) := Lib.hid (Own.step hbwB (by repeat (first | (with_reducible exact HPwA.out) | ((with_reducible refine Own.far ?_ ?_ _); rotate_left; (first | omega | (simp <;> omega))) | (with_reducible refine Own.alloc ?_ _) | (with_reducible refine Own.drewN ?_ _) | (with_reducible refine Own.drew ?_) | (with_reducible refine Own.step (by assumption) ?_)))); have HGwB : Hid (Grow wB (w.heap.size + 1) 9 1 B2 (3 + s.ps.length + j) d2 (strs (linesAt s s.ps.length j))) := Lib.hid (Grow.step hbwB (by repeat (first | (with_reducible exact HGwA.out) | (with_reducible refine Grow.alloc ?_ _) | (with_reducible refine Grow.drewN ?_ _) | (with_reducible refine Grow.drew ?_) | ((with_reducible refine Grow.far ?_ ?_ _); rotate_left; (first | omega | (simp <;> omega))) | (with_reducible refine Grow.step (by assumption) ?_)))))
          (try go_wp2_with fail)
          refine hK.out _ _ ?_ (fun hHeld3 => ?_)
          · exact fun m v hv => (hbwB.cell (p := ⟨G, m, none⟩) (by first | omega | (simp <;> omega))).trans (hHeld2 m v hv)
          clear hK K hHeld2
          (try simp only [List.getElem_toArray, List.getElem_cons_succ, List.getElem_cons_zero, Act.put, List.setIfInBounds_toArray, List.set_cons_zero, List.set_cons_succ])
          (refine wpAnyH_take (i := 9) (v := ?_) rfl (by kernel_rfl) (by kernel_rfl) (by kernel_rfl) (fun _ _ _ h => h) (Or.inl ⟨by rfl, ?_⟩) (by assumption) ?_; rotate_left; focus (intro w hSw; (try dsimp only at hSw); go_simp; try with_reducible rfl)); (try simp only [List.getElem_toArray, List.getElem_cons_succ, List.getElem_cons_zero, Act.put, List.setIfInBounds_toArray, List.set_cons_zero, List.set_cons_succ])
          (refine wpAnyH_take (i := 10) (v := ?_) rfl (by kernel_rfl) (by kernel_rfl) (by kernel_rfl) (fun _ _ _ h => h) (Or.inl ⟨by rfl, ?_⟩) (by assumption) ?_; rotate_left; focus (intro w hSw; (try dsimp only at hSw); go_simp; try with_reducible rfl)); (try simp only [List.getElem_toArray, List.getElem_cons_succ, List.getElem_cons_zero, Act.put, List.setIfInBounds_toArray, List.set_cons_zero, List.set_cons_succ])
          refine wpAnyH_ready (rs := [13]) (by kernel_rfl) (by simp) ?_
          refine AllReadyH.cons rfl (fun K hK => ?_) AllReadyH.nil
          go_simp
          (go_at_call 43; (with_reducible refine (HC3.out _ (by repeat (first | (with_reducible exact Below.refl _ _) | (with_reducible exact HBwB.out) | (with_reducible assumption) | ((with_reducible refine Below.alloc ?_ ?_ _); rotate_left; (first | omega | (simp <;> omega))) | ((with_reducible refine Below.setCell ?_ ?_ _); rotate_left; (first | omega | (simp <;> omega))) | (with_reducible refine below_drewN ?_ _) | (with_reducible refine Below.drew ?_) | ((with_reducible refine Below.step (by assumption) ?_ ?_); rotate_left; (first | omega | (simp <;> omega)))))).mono ?_); rintro e wC ⟨rfl, hbwC⟩; have hzwC := hbwC.size; (try simp at hzwC); have HBwC : Hid (Below w.heap.size w wC) := Lib.hid (Below.step hbwC (by repeat (first | (with_reducible exact Below.refl _ _) | (with_reducible exact HBwB.out) | (with_reducible assumption) | ((with_reducible refine Below.alloc ?_ ?_ _); rotate_left; (first | omega | (simp <;> omega))) | ((with_reducible refine Below.setCell ?_ ?_ _); rotate_left; (first | omega | (simp <;> omega))) | (with_reducible refine below_drewN ?_ _) | (with_reducible refine Below.drew ?_) | ((with_reducible refine Below.step (by assumption) ?_ ?_); rotate_left; (first | omega | (simp <;> omega))))) (by first | omega | (simp <;> omega))); have HPwC : Hid (Own wC w.heap.size 38 [.int .i64 s.a, .int .i64 s.b, .int .i64 s.c, .int .i64 s.d, .bool s.e, .int .i64 s.f, .int .i64 s.g, .int .i64 s.log, .slice TA s.tex.length tc, .slice P s.ps.length pc, .slice (some ⟨b, o, none⟩) s.ss.length qc, .int .i64 s.side]) := Lib.hid (Own.step hbwC (by repeat (first | (with_reducible exact HPwB.out) | ((with_reducible refine Own.far ?_ ?_ _); rotate_left; (first | omega | (simp <;> omega))) | (with_reducible refine Own.alloc ?_ _) | (with_reducible refine Own.drewN ?_ _) | (with_reducible refine Own.drew ?_) | (with_reducible refine Own.step (by assumption) ?_)))); have HGwC : Hid (Grow wC (w.heap.size + 1) 9 1 B2 (3 + s.ps.length + j) d2 (strs (linesAt s s.ps.length j))) := Lib.hid (Grow.step hbwC (by repeat (first | (with_reducible exact HGwB.out) | (with_reducible refine Grow.alloc ?_ _) | (with_reducible refine Grow.drewN ?_ _) | (with_reducible refine Grow.drew ?_) | ((with_reducible refine Grow.far ?_ ?_ _); rotate_left; (first | omega | (simp <;> omega))) | (with_reducible refine Grow.step (by assumption) ?_)))))
          (try go_wp2_with fail)
          refine hK.out _ _ ?_ (fun hHeld4 => ?_)
          · exact fun m v hv => (hbwC.cell (p := ⟨G, m, none⟩) (by first | omega | (simp <;> omega))).trans (hHeld3 m v hv)
          clear hK K hHeld3
          (try simp only [List.getElem_toArray, List.getElem_cons_succ, List.getElem_cons_zero, Act.put, List.setIfInBounds_toArray, List.set_cons_zero, List.set_cons_succ])
          (refine wpAnyH_take (i := 14) (v := ?_) rfl (by kernel_rfl) (by kernel_rfl) (by kernel_rfl) (fun _ _ _ h => h) (Or.inl ⟨by rfl, ?_⟩) (by assumption) ?_; rotate_left; focus (intro w hSw; (try dsimp only at hSw); go_simp; try with_reducible rfl)); (try simp only [List.getElem_toArray, List.getElem_cons_succ, List.getElem_cons_zero, Act.put, List.setIfInBounds_toArray, List.set_cons_zero, List.set_cons_succ])
          (refine wpAnyH_take (i := 15) (v := ?_) rfl (by kernel_rfl) (by kernel_rfl) (by kernel_rfl) (fun _ _ _ h => h) (Or.inl ⟨by rfl, ?_⟩) (by assumption) ?_; rotate_left; focus (intro w hSw; (try dsimp only at hSw); go_simp; try with_reducible rfl)); (try simp only [List.getElem_toArray, List.getElem_cons_succ, List.getElem_cons_zero, Act.put, List.setIfInBounds_toArray, List.set_cons_zero, List.set_cons_succ])
          refine wpAnyH_ready (rs := [18]) (by kernel_rfl) (by simp) ?_
          refine AllReadyH.cons rfl (fun K hK => ?_) AllReadyH.nil
          go_simp
          (go_at_call 43; (with_reducible refine (HC4.out _ (by repeat (first | (with_reducible exact Below.refl _ _) | (with_reducible exact HBwC.out) | (with_reducible assumption) | ((with_reducible refine Below.alloc ?_ ?_ _); rotate_left; (first | omega | (simp <;> omega))) | ((with_reducible refine Below.setCell ?_ ?_ _); rotate_left; (first | omega | (simp <;> omega))) | (with_reducible refine below_drewN ?_ _) | (with_reducible refine Below.drew ?_) | ((with_reducible refine Below.step (by assumption) ?_ ?_); rotate_left; (first | omega | (simp <;> omega)))))).mono ?_); rintro e wD ⟨rfl, hbwD⟩; have hzwD := hbwD.size; (try simp at hzwD); have HBwD : Hid (Below w.heap.size w wD) := Lib.hid (Below.step hbwD (by repeat (first | (with_reducible exact Below.refl _ _) | (with_reducible exact HBwC.out) | (with_reducible assumption) | ((with_reducible refine Below.alloc ?_ ?_ _); rotate_left; (first | omega | (simp <;> omega))) | ((with_reducible refine Below.setCell ?_ ?_ _); rotate_left; (first | omega | (simp <;> omega))) | (with_reducible refine below_drewN ?_ _) | (with_reducible refine Below.drew ?_) | ((with_reducible refine Below.step (by assumption) ?_ ?_); rotate_left; (first | omega | (simp <;> omega))))) (by first | omega | (simp <;> omega))); have HPwD : Hid (Own wD w.heap.size 38 [.int .i64 s.a, .int .i64 s.b, .int .i64 s.c, .int .i64 s.d, .bool s.e, .int .i64 s.f, .int .i64 s.g, .int .i64 s.log, .slice TA s.tex.length tc, .slice P s.ps.length pc, .slice (some ⟨b, o, none⟩) s.ss.length qc, .int .i64 s.side]) := Lib.hid (Own.step hbwD (by repeat (first | (with_reducible exact HPwC.out) | ((with_reducible refine Own.far ?_ ?_ _); rotate_left; (first | omega | (simp <;> omega))) | (with_reducible refine Own.alloc ?_ _) | (with_reducible refine Own.drewN ?_ _) | (with_reducible refine Own.drew ?_) | (with_reducible refine Own.step (by assumption) ?_)))); have HGwD : Hid (Grow wD (w.heap.size + 1) 9 1 B2 (3 + s.ps.length + j) d2 (strs (linesAt s s.ps.length j))) := Lib.hid (Grow.step hbwD (by repeat (first | (with_reducible exact HGwC.out) | (with_reducible refine Grow.alloc ?_ _) | (with_reducible refine Grow.drewN ?_ _) | (with_reducible refine Grow.drew ?_) | ((with_reducible refine Grow.far ?_ ?_ _); rotate_left; (first | omega | (simp <;> omega))) | (with_reducible refine Grow.step (by assumption) ?_)))))
          (try go_wp2_with fail)
          refine hK.out _ _ ?_ (fun hHeld5 => ?_)
          · exact fun m v hv => (hbwD.cell (p := ⟨G, m, none⟩) (by first | omega | (simp <;> omega))).trans (hHeld4 m v hv)
          clear hK K hHeld4
          (try simp only [List.getElem_toArray, List.getElem_cons_succ, List.getElem_cons_zero, Act.put, List.setIfInBounds_toArray, List.set_cons_zero, List.set_cons_succ])
          (refine wpAnyH_take (i := 19) (v := ?_) rfl (by kernel_rfl) (by kernel_rfl) (by kernel_rfl) (fun _ _ _ h => h) (Or.inl ⟨by rfl, ?_⟩) (by assumption) ?_; rotate_left; focus (intro w hSw; (try dsimp only at hSw); go_simp; try with_reducible rfl)); (try simp only [List.getElem_toArray, List.getElem_cons_succ, List.getElem_cons_zero, Act.put, List.setIfInBounds_toArray, List.set_cons_zero, List.set_cons_succ])
          have HYE : Hid ([str Y] = [.string ({ data := #[115, 117, 114, 102, 97, 99, 101, 32] } ++ { data := F1.toArray } ++ { data := #[32] } ++ { data := F2.toArray } ++ { data := #[32] } ++ { data := F3.toArray } ++ { data := #[32] } ++ { data := F4.toArray })]) := Lib.hid (by
            rw [HSF.out]
            show _ = [Value.string (((((((({ data := [115, 117, 114, 102, 97, 99, 101, 32].toArray } : ByteArray) ++ { data := F1.toArray }) ++ { data := [32].toArray }) ++ { data := F2.toArray }) ++ { data := [32].toArray }) ++ { data := F3.toArray }) ++ { data := [32].toArray }) ++ { data := F4.toArray })]
            rw [str_cat, str_cat, str_cat, str_cat, str_cat, str_cat, str_cat])
          refine wpAnyH_ready (rs := [20]) (by kernel_rfl) (by simp) ?_
          refine AllReadyH.cons rfl (fun K hK => ?_) AllReadyH.nil
          go_simp
          skip
          (try go_wp2_with fail)
          refine hK.out _ _ ?_ (fun hHeld6 => ?_)
          · exact fun m v hv => ((Below.alloc (Below.refl wD.heap.size wD) (Nat.le_refl _) _).cell (p := ⟨G, m, none⟩) (by first | omega | (simp <;> omega))).trans (hHeld5 m v hv)
          clear hK K hHeld5
          (try simp only [List.getElem_toArray, List.getElem_cons_succ, List.getElem_cons_zero, Act.put, List.setIfInBounds_toArray, List.set_cons_zero, List.set_cons_succ])
          refine wpAnyH_ready (rs := [21]) (by kernel_rfl) (by simp) ?_
          refine AllReadyH.cons rfl (fun K hK => ?_) AllReadyH.nil
          refine step_app (by rfl) _ _ 85 (by rfl) (w.heap.size + 1) 9 (.string ByteArray.empty) 1 16 Tryz.underlying85 T.infoString rfl (by decide) (xs := strs (linesAt s s.ps.length j)) (by rfl) ?_ (ys := [.string ({ data := #[115, 117, 114, 102, 97, 99, 101, 32] } ++ { data := F1.toArray } ++ { data := #[32] } ++ { data := F2.toArray } ++ { data := #[32] } ++ { data := F3.toArray } ++ { data := #[32] } ++ { data := F4.toArray })]) (by rfl) ?_ (one_str _) ?_ ?_ ?_ ?_; (exact (by repeat (first | (with_reducible exact HGwD.out) | (with_reducible refine Grow.alloc ?_ _) | (with_reducible refine Grow.drewN ?_ _) | (with_reducible refine Grow.drew ?_) | ((with_reducible refine Grow.far ?_ ?_ _); rotate_left; (first | omega | (simp <;> omega))) | (with_reducible refine Grow.step (by assumption) ?_)))); (exact (Grow.rs (base := 0) (n := 1) (c := 1) (by repeat (first | (with_reducible refine Grow.drewN ?_ _) | (with_reducible refine Grow.drew ?_) | (refine Grow.lit_at (by simp) (by rfl) (Nat.zero_le _) (by unfold maxLen; omega)))))); (unfold maxLen; omega); (omega); (first | omega | (simp <;> omega)); rintro A' c' w2 gA
          have g1 := gA.1
          have g2 := gA.2.1
          rw [← HYE.out, ← HS.out] at g1
          have HG1 := Lib.hid g1
          have HB4 : Hid (Below w.heap.size w w2) := Lib.hid (Below.trans (Below.alloc HBwD.out (by omega) _) (g2.mono (by omega)))
          have HP4 : Hid (Own w2 w.heap.size 38 [.int .i64 s.a, .int .i64 s.b, .int .i64 s.c, .int .i64 s.d, .bool s.e, .int .i64 s.f, .int .i64 s.g, .int .i64 s.log, .slice TA s.tex.length tc, .slice P s.ps.length pc, .slice (some ⟨b, o, none⟩) s.ss.length qc, .int .i64 s.side]) := Lib.hid (Own.below (Own.alloc HPwD.out _) g2 (by omega))
          have hfar := gA.far (b := G) (by first | omega | (simp <;> omega)) (fun hx => by have := hgl G hx; omega)
          refine hK.out _ _ ?_ (fun hHeldL => ?_)
          · exact fun m v hv => (hfar.1 m).trans (hHeld6 m v hv)
          clear hK K hHeld6 gA g1 g2 hfar
          (try simp only [List.getElem_toArray, List.getElem_cons_succ, List.getElem_cons_zero, Act.put, List.setIfInBounds_toArray, List.set_cons_zero, List.set_cons_succ])
          (refine wpAnyH_take (i := 22) (v := ?_) rfl (by kernel_rfl) (by kernel_rfl) (by kernel_rfl) (fun _ _ _ h => h) (Or.inl ⟨by rfl, ?_⟩) (by assumption) ?_; rotate_left; focus (intro w hSw; (try dsimp only at hSw); go_simp; try with_reducible rfl)); (try simp only [List.getElem_toArray, List.getElem_cons_succ, List.getElem_cons_zero, Act.put, List.setIfInBounds_toArray, List.set_cons_zero, List.set_cons_succ])
          refine wpAnyH_done (by kernel_rfl) ?_ _
          all_goals
            go_wp2_with fail
            go_roundw
            case rel => exact ⟨j + 1, _, _, by omega, by go_num, rfl, HG1.out, HP4.out, HB4.out⟩
            case measure => simp [RowKit.intOf] <;> omega
        · obtain rfl : j = s.ss.length := by omega
          have HRS : Hid (RS wi 1 B2 (linesOf s).length d2 (strs (linesOf s))) := Lib.hid (by
            have := HG3.out.rs
            rw [linesAt_all] at this
            rw [show (linesOf s).length = 3 + s.ps.length + s.ss.length by rw [← linesAt_all, linesAt_len (Nat.le_refl _) (Nat.le_refl _)]]
            exact this)
          have HJL : Hid ((join (linesOf s) [10]).length ≤ 660010) := Lib.hid (lines_join HIS.out)
          have HLN : Hid ((linesOf s).length = 3 + s.ps.length + s.ss.length) := Lib.hid (by rw [← linesAt_all, linesAt_len (Nat.le_refl _) (Nat.le_refl _)])
          have HJ : Hid (∀ wx, wx = wi → Calls Tryz.prog 44 #[.slice B2 (3 + s.ps.length + s.ss.length) d2, .string ⟨#[10]⟩] wx fun e w' => e = .returned (str (join (linesOf s) [10])) ∧ Below wx.heap.size wx w') := Lib.hid (fun wx hx => by
            subst hx
            rw [← HLN.out]
            exact (S_Join (sep := [10]) _ HRS.out (by have := HJL.out; omega) (by decide)).mono (fun e w' h => ⟨h.1, by obtain ⟨_, rfl⟩ := h; exact Below.refl _ _⟩))
          obtain ⟨Y, hY⟩ : ∃ Y, join (linesOf s) [10] = Y := ⟨_, rfl⟩
          rw [hY] at HJ HJL HF
          have s9 : ¬ 9223372036854775807 < Y.length + 1 := by have := HJL.out; omega
          clear hY
          go_wp2_with (first | (go_at_call 44; (with_reducible refine (HJ.out _ rfl).mono ?_); rintro e wA ⟨rfl, hbA⟩) | fail)
          go_ret
          refine ⟨?_, Below.step hbA HB3.out HB3.out.size⟩
          rw [HF.out]
          show Ending.returned (Value.string (({ data := Y.toArray } : ByteArray) ++ { data := [10].toArray })) = _
          rw [str_cat]
end Go.Proofs.YtjipfgadamokaaaGreatDoor
