/- CropImage of the program. -/
import Derived.Test.YtndipkclmecpoaaCrop
import Derived.Test.YtndipkclmecpoaaOpen
import Derived.Test.YtndipkclmecpoaaPhase
import Derived.Deep.RegionHeld3
namespace Go.Proofs.Ytndipkclmecpoaa
open Go.RowKit
set_option linter.unusedVariables false
open Go.ChangeShapes Go.WideShapes Go.ChangeAt in
theorem Arg.bucket {H : Type} {enc : TypeId × Value → H} {W : World} {v : Value} (h : Arg enc W 69 v) : ∃ a b c d, v = vBucket a b c d ∧ True := by
  obtain ⟨cs, rfl, hc⟩ := h.struct Try.underlying69
  have hl := (hc.struct_len Try.underlying69).trans (show Try.prog.cellsOf 69 = 4 by kernel_rfl)
  match cs, hl with
  | [c0, c1, c2, c3], _ =>
    obtain ⟨x0, h0, _⟩ := (hc.fieldAt Try.underlying69 0 3 0 1 rfl T.cellInt).int Try.underlying3
    obtain ⟨x1, h1, _⟩ := (hc.fieldAt Try.underlying69 1 3 1 1 rfl T.cellInt).int Try.underlying3
    obtain ⟨x2, h2, _⟩ := (hc.fieldAt Try.underlying69 2 3 2 1 rfl T.cellInt).int Try.underlying3
    obtain ⟨x3, h3, _⟩ := (hc.fieldAt Try.underlying69 3 3 3 1 rfl T.cellInt).int Try.underlying3
    obtain rfl : c0 = _ := List.head_eq_of_cons_eq h0
    obtain rfl : c1 = _ := List.head_eq_of_cons_eq h1
    obtain rfl : c2 = _ := List.head_eq_of_cons_eq h2
    obtain rfl : c3 = _ := List.head_eq_of_cons_eq h3
    exact ⟨x0, x1, x2, x3, rfl, trivial⟩
set_option maxRecDepth 20000 in
set_option maxHeartbeats 8000000 in
theorem I_CropImage {W H x y p q : Int} {A : Option Addr} {c : Nat} {l : List Int} (w : World) (h : RS w 1 A l.length c (ints l)) :
    Calls Try.prog 48 #[vImage W H (.slice A l.length c), vBucket x y p q] w (CropR (cropOk W H l x y p q) p q (cropTo l W.toNat x.toNat y.toNat p.toNat q.toNat) w) := by
  have H0 := Lib.hid h
  have hlen := h.len
  unfold maxLen at hlen
  clear h
  cases hv : validImg W H l
  case false =>
    have HV : Hid (CropR (cropOk W H l x y p q) p q (cropTo l W.toNat x.toNat y.toNat p.toNat q.toNat) w = CropR false p q (cropTo l W.toNat x.toNat y.toNat p.toNat q.toNat) w) := by show _ = _; unfold cropOk; rw [hv]; rfl
    go_enter Try.func48, Try.ntmps48
    go_wp2_with fail
    refine (I_IsValidImage _ (RS.step (by repeat (first | (with_reducible exact Below.refl _ _) | (with_reducible assumption) | ((with_reducible refine Below.alloc ?_ ?_ _); rotate_left; (first | omega | (simp <;> omega))) | ((with_reducible refine Below.setCell ?_ ?_ _); rotate_left; (first | omega | (simp <;> omega))) | (with_reducible refine below_drewN ?_ _) | (with_reducible refine Below.drew ?_) | ((with_reducible refine Below.step (by assumption) ?_ ?_); rotate_left; (first | omega | (simp <;> omega))))) H0.out)).mono ?_
    rintro e w' ⟨rfl, hb⟩; have hz := hb.size; (try simp at hz); have c0 := fun o => hb.cell (p := ⟨w.heap.size, o, none⟩) (by first | omega | (simp <;> omega)); have f0 := fun o => hb.frozen (p := ⟨w.heap.size, o, none⟩) (by first | omega | (simp <;> omega)); have z0 : w.heap.size < w'.heap.size := (by omega); have c1 := fun o => hb.cell (p := ⟨w.heap.size + 1, o, none⟩) (by first | omega | (simp <;> omega)); have f1 := fun o => hb.frozen (p := ⟨w.heap.size + 1, o, none⟩) (by first | omega | (simp <;> omega)); have z1 : w.heap.size + 1 < w'.heap.size := (by omega); have c2 := fun o => hb.cell (p := ⟨w.heap.size + 1 + 1, o, none⟩) (by first | omega | (simp <;> omega)); have f2 := fun o => hb.frozen (p := ⟨w.heap.size + 1 + 1, o, none⟩) (by first | omega | (simp <;> omega)); have z2 : w.heap.size + 1 + 1 < w'.heap.size := (by omega)
    go_wp2
    rw [HV.out]
    exact bodyPost_ret (v := .tuple #[vImage 0 0 (.slice none 0 0), .bool false]) (by simp [results, Try.results48, go_sem, *]) rfl (CropR.no (by repeat (first | (with_reducible exact Below.refl _ _) | (with_reducible assumption) | ((with_reducible refine Below.alloc ?_ ?_ _); rotate_left; (first | omega | (simp <;> omega))) | ((with_reducible refine Below.setCell ?_ ?_ _); rotate_left; (first | omega | (simp <;> omega))) | (with_reducible refine below_drewN ?_ _) | (with_reducible refine Below.drew ?_) | ((with_reducible refine Below.step (by assumption) ?_ ?_); rotate_left; (first | omega | (simp <;> omega))))))
  case true =>
    obtain ⟨⟨hW1, hW2⟩, ⟨hH1, hH2⟩, _, h144, _⟩ := validImg_len hv
    cases hi : insideF x y p q W H
    case true =>
      obtain ⟨a, b, xn, yn, pn, qn, rfl, rfl, rfl, rfl, rfl, rfl, ⟨a1, a2⟩, ⟨b1, b2⟩, hxp, hyq, hp1, hq1, hln⟩ := crop_nat hv hi
      have HV : Hid (CropR (cropOk a b l xn yn pn qn) pn qn (cropTo l (a : Int).toNat (xn : Int).toNat (yn : Int).toNat (pn : Int).toNat (qn : Int).toNat) w = CropR true pn qn (cropTo l a xn yn pn qn) w) := by show _ = _; unfold cropOk; rw [hv, hi]; rfl
      obtain ⟨bA, oA, rfl, hbA, _⟩ := H0.out.open_.2.2 (by rw [hln]; exact Nat.mul_pos a1 b1)
      obtain ⟨hlc, hcm, _⟩ := H0.out.open_
      unfold maxLen at hcm
      have HLN := Lib.hid hln
      clear hln
      go_enter Try.func48, Try.ntmps48
      go_wp2_with fail
      refine (I_IsValidImage _ (RS.step (by repeat (first | (with_reducible exact Below.refl _ _) | (with_reducible assumption) | ((with_reducible refine Below.alloc ?_ ?_ _); rotate_left; (first | omega | (simp <;> omega))) | ((with_reducible refine Below.setCell ?_ ?_ _); rotate_left; (first | omega | (simp <;> omega))) | (with_reducible refine below_drewN ?_ _) | (with_reducible refine Below.drew ?_) | ((with_reducible refine Below.step (by assumption) ?_ ?_); rotate_left; (first | omega | (simp <;> omega))))) H0.out)).mono ?_
      rintro e w0 ⟨rfl, hb0⟩
      have hz0 := hb0.size
      (try simp at hz0)
      have hB0 : Below w.heap.size w w0 := (by repeat (first | (with_reducible exact Below.refl _ _) | (with_reducible assumption) | ((with_reducible refine Below.alloc ?_ ?_ _); rotate_left; (first | omega | (simp <;> omega))) | ((with_reducible refine Below.setCell ?_ ?_ _); rotate_left; (first | omega | (simp <;> omega))) | (with_reducible refine below_drewN ?_ _) | (with_reducible refine Below.drew ?_) | ((with_reducible refine Below.step (by assumption) ?_ ?_); rotate_left; (first | omega | (simp <;> omega)))))
      obtain ⟨cc0, ff0⟩ := bcell (hb0.mono (show w.heap.size + 3 ≤ _ by first | omega | (simp <;> omega)))
      have xa : w.heap.size < w0.heap.size := by omega
      have xb : w.heap.size + 1 < w0.heap.size := by omega
      have xc : w.heap.size + 1 + 1 < w0.heap.size := by omega
      have m0 : w0.cell? ⟨w.heap.size, 0, none⟩ = some (.int .i64 a) := by go_simp
      have m1 : w0.cell? ⟨w.heap.size, 1, none⟩ = some (.int .i64 b) := by go_simp
      have m2 : w0.cell? ⟨w.heap.size, 2, none⟩ = some (.slice (some ⟨bA, oA, none⟩) l.length c) := by go_simp
      have m10 : w0.cell? ⟨w.heap.size + 1, 0, none⟩ = some (.int .i64 xn) := by go_simp
      have m11 : w0.cell? ⟨w.heap.size + 1, 1, none⟩ = some (.int .i64 yn) := by go_simp
      have m12 : w0.cell? ⟨w.heap.size + 1, 2, none⟩ = some (.int .i64 pn) := by go_simp
      have m13 : w0.cell? ⟨w.heap.size + 1, 3, none⟩ = some (.int .i64 qn) := by go_simp
      have mr : ∀ o, w0.frozen? ⟨w.heap.size + 1 + 1, o, none⟩ = false := by intro o; go_simp
      have mr0 : w0.cell? ⟨w.heap.size + 1 + 1, 0, none⟩ = some (.int .i64 0) := by go_simp
      have mr1 : w0.cell? ⟨w.heap.size + 1 + 1, 1, none⟩ = some (.int .i64 0) := by go_simp
      have mr2 : w0.cell? ⟨w.heap.size + 1 + 1, 2, none⟩ = some (.slice none 0 0) := by go_simp
      clear hb0 cc0 ff0
      go_wp2_with fail
      refine (I_inside _ ⟨hW1, hW2⟩ ⟨hH1, hH2⟩).mono ?_
      rintro e w1 ⟨rfl, hb1⟩
      have hz1 := hb1.size
      (try simp at hz1)
      have hB1 : Below w.heap.size w w1 := hB0.trans (hb1.mono (by omega))
      obtain ⟨cc1, ff1⟩ := bcell (hb1.mono (show w.heap.size + 3 ≤ _ by first | omega | (simp <;> omega)))
      have ya : w.heap.size < w1.heap.size := by omega
      have yb : w.heap.size + 1 < w1.heap.size := by omega
      have yc : w.heap.size + 1 + 1 < w1.heap.size := by omega
      have k0 : w1.cell? ⟨w.heap.size, 0, none⟩ = some (.int .i64 a) := by go_simp
      have k1 : w1.cell? ⟨w.heap.size, 1, none⟩ = some (.int .i64 b) := by go_simp
      have k2 : w1.cell? ⟨w.heap.size, 2, none⟩ = some (.slice (some ⟨bA, oA, none⟩) l.length c) := by go_simp
      have k10 : w1.cell? ⟨w.heap.size + 1, 0, none⟩ = some (.int .i64 xn) := by go_simp
      have k11 : w1.cell? ⟨w.heap.size + 1, 1, none⟩ = some (.int .i64 yn) := by go_simp
      have k12 : w1.cell? ⟨w.heap.size + 1, 2, none⟩ = some (.int .i64 pn) := by go_simp
      have k13 : w1.cell? ⟨w.heap.size + 1, 3, none⟩ = some (.int .i64 qn) := by go_simp
      have kr : ∀ o, w1.frozen? ⟨w.heap.size + 1 + 1, o, none⟩ = false := by intro o; go_simp
      have kr0 : w1.cell? ⟨w.heap.size + 1 + 1, 0, none⟩ = some (.int .i64 0) := by go_simp
      have kr1 : w1.cell? ⟨w.heap.size + 1 + 1, 1, none⟩ = some (.int .i64 0) := by go_simp
      have kr2 : w1.cell? ⟨w.heap.size + 1 + 1, 2, none⟩ = some (.slice none 0 0) := by go_simp
      clear hb1 cc1 ff1 m0 m1 m2 m10 m11 m12 m13 mr mr0 mr1 mr2
      go_wp2_with fail
      go_loopw [7] (fun t wr => ∃ (j : Nat) (C : Option Addr) (n q : Nat), yn ≤ j ∧ j ≤ yn + qn ∧ t = .int .i64 j ∧ Own wr w1.heap.size 44 [.int .i64 pn, .int .i64 qn, .slice C n q] ∧ Grow wr (w1.heap.size + 1) 3 1 C n q (ints (cropTo l a xn yn pn (j - yn))) ∧ Below w1.heap.size w1 wr) (fun t _ => yn + qn - (intOf t).toNat)
      case atStart => exact ⟨yn, none, 0, 0, Nat.le_refl _, by omega, rfl, Own.new w1 _ #[_, _, _], by rw [Nat.sub_self]; exact Grow.nil _ _ _ _, (Below.refl _ _).alloc (Nat.le_refl _) _⟩
      case round =>
        obtain ⟨j, C, n, q, j1, j2, rfl, ho, hg, hb⟩ := hrel
        have hsz := hb.size
        have e0 : wr.cell? ⟨w.heap.size, 0, none⟩ = some (.int .i64 a) := (hb.cell (by show _ < _; omega)).trans k0
        have e1 : wr.cell? ⟨w.heap.size, 1, none⟩ = some (.int .i64 b) := (hb.cell (by show _ < _; omega)).trans k1
        have e2 : wr.cell? ⟨w.heap.size, 2, none⟩ = some (.slice (some ⟨bA, oA, none⟩) l.length c) := (hb.cell (by show _ < _; omega)).trans k2
        have e10 : wr.cell? ⟨w.heap.size + 1, 0, none⟩ = some (.int .i64 xn) := (hb.cell (by show _ < _; omega)).trans k10
        have e11 : wr.cell? ⟨w.heap.size + 1, 1, none⟩ = some (.int .i64 yn) := (hb.cell (by show _ < _; omega)).trans k11
        have e12 : wr.cell? ⟨w.heap.size + 1, 2, none⟩ = some (.int .i64 pn) := (hb.cell (by show _ < _; omega)).trans k12
        have e13 : wr.cell? ⟨w.heap.size + 1, 3, none⟩ = some (.int .i64 qn) := (hb.cell (by show _ < _; omega)).trans k13
        have er0 : wr.cell? ⟨w.heap.size + 1 + 1, 0, none⟩ = some (.int .i64 0) := (hb.cell (by show _ < _; omega)).trans kr0
        have er1 : wr.cell? ⟨w.heap.size + 1 + 1, 1, none⟩ = some (.int .i64 0) := (hb.cell (by show _ < _; omega)).trans kr1
        have er2 : wr.cell? ⟨w.heap.size + 1 + 1, 2, none⟩ = some (.slice none 0 0) := (hb.cell (by show _ < _; omega)).trans kr2
        have erf : ∀ o, wr.frozen? ⟨w.heap.size + 1 + 1, o, none⟩ = false := fun o => (hb.frozen (by show _ < _; omega)).trans (kr o)
        have g0 : wr.cell? ⟨w1.heap.size, 0, none⟩ = some (.int .i64 pn) := ho.cell 0
        have g1 : wr.cell? ⟨w1.heap.size, 1, none⟩ = some (.int .i64 qn) := ho.cell 1
        have g2 : wr.cell? ⟨w1.heap.size, 2, none⟩ = some (.slice C n q) := ho.cell 2
        have gf : wr.frozen? ⟨w1.heap.size, 2, none⟩ = false := ho.frozen _
        have hgl := ho.lt
        have hnl : n ≤ 144 := by
          have h1 := hg.len
          have h2 := cropTo_len l a xn yn pn (j - yn)
          have h3 : (j - yn) * pn ≤ 12 * 12 := Nat.mul_le_mul (by omega) (by omega)
          simp at h1
          omega
        have HOW := Lib.hid ho
        have HG := Lib.hid hg
        have HB := Lib.hid hb
        have hbw : Below w.heap.size w wr := hB1.trans (hb.mono (by omega))
        have HR := Lib.hid (RS.step hbw H0.out)
        clear ho hg hb hbw
        by_cases hlt : j < yn + qn
        · have hre := row_end (a := a) hlt hyq
          rw [← HLN.out] at hre
          have hr : (j : Int) * (a : Int) = ((j * a : Nat) : Int) := by simp
          have HS := Lib.hid (cropTo_succ l a xn yn pn (j - yn))
          have HJ : Hid ((yn + (j - yn)) * a = j * a) := by show _ = _; rw [show yn + (j - yn) = j by omega]
          have hle : l.length ≤ 144 := by omega
          have hjr : ∃ r, j * a = r := ⟨_, rfl⟩
          obtain ⟨r, hjr⟩ := hjr
          have HJr := Lib.hid hjr
          rw [hjr] at hre hr HJ
          clear hjr
          have w2' : IntKind.i64.wrap ((xn : Int) + (pn : Int)) = (xn : Int) + (pn : Int) := IntWalk.i64_in _ (by omega)
          have t2 : ((xn : Int) + (pn : Int)).toNat = xn + pn := by omega
          have s2 : (xn : Int) ≤ (xn : Int) + (pn : Int) := by omega
          have s3 : (xn : Int) + (pn : Int) ≤ ((c - r : Nat) : Int) := by omega
          have hy0 : w.heap.size < wr.heap.size := by omega
          have hy1 : w.heap.size + 1 < wr.heap.size := by omega
          have hy2 : w1.heap.size < wr.heap.size := by omega
          have hcr : ¬ c - r = xn := by omega
          have HPt : Hid (∀ wx, Below wr.heap.size wr wx → RS wx 1 (some ⟨bA, oA + r + xn, none⟩) pn (c - r - xn) (ints ((l.drop (r + xn)).take pn))) := by
            intro wx hbx
            rw [Nat.add_assoc, Nat.sub_sub]
            exact RS.part1 (RS.step hbx HR.out) (r + xn) pn (c - (r + xn)) (by omega) (by omega) (by unfold maxLen; omega)
          have HIR : Hid (∀ wx : World, Calls Try.prog 99 #[vImage a b (.slice (some ⟨bA, oA, none⟩) l.length c), .int .i64 j] wx fun e w' => e = .returned (.slice (some ⟨bA, oA + r, none⟩) a (c - r)) ∧ Below wx.heap.size wx w') := by
            intro wx
            rw [← HJr.out]
            exact I_irow wx hlc (by unfold maxLen; omega) ⟨a1, a2⟩ (by omega) (by rw [Nat.succ_mul, HJr.out]; omega)
          clear hr
          go_wp2_with fail
          refine wp_region_M (S := (fun w' => w'.cell? ⟨w.heap.size, 0, none⟩ = some (.int .i64 a) ∧ w'.cell? ⟨w.heap.size, 1, none⟩ = some (.int .i64 b) ∧ w'.cell? ⟨w.heap.size, 2, none⟩ = some (.slice (some ⟨bA, oA, none⟩) l.length c) ∧ w'.cell? ⟨w.heap.size + 1, 0, none⟩ = some (.int .i64 xn) ∧ w'.cell? ⟨w.heap.size + 1, 2, none⟩ = some (.int .i64 pn) ∧ w'.cell? ⟨w1.heap.size, 2, none⟩ = some (.slice C n q))) 15 (by kernel_rfl) (by (try dsimp only); refine ⟨?_, ?_, ?_, ?_, ?_, ?_⟩ <;> (go_simp; done)) (fun hHeld => ?_)
          refine wpAnyM_take (i := 0) (v := ?_) rfl (by kernel_rfl) (by kernel_rfl) (by kernel_rfl) (by kernel_rfl) (fun _ _ _ h => h) (Or.inl ⟨by rfl, ?_⟩) (by assumption) ?_
          rotate_left
          · intro w hSw
            (try dsimp only at hSw)
            go_simp
            try with_reducible rfl
          refine wpAnyM_take (i := 1) (v := ?_) rfl (by kernel_rfl) (by kernel_rfl) (by kernel_rfl) (by kernel_rfl) (fun _ _ _ h => h) (Or.inl ⟨by rfl, ?_⟩) (by assumption) ?_
          rotate_left
          · intro w hSw
            (try dsimp only at hSw)
            go_simp
            try with_reducible rfl
          refine wpAnyM_take (i := 2) (v := ?_) rfl (by kernel_rfl) (by kernel_rfl) (by kernel_rfl) (by kernel_rfl) (fun _ _ _ h => h) (Or.inl ⟨by rfl, ?_⟩) (by assumption) ?_
          rotate_left
          · intro w hSw
            (try dsimp only at hSw)
            go_simp
            try with_reducible rfl
          refine wpAnyM_take (i := 3) (v := ?_) rfl (by kernel_rfl) (by kernel_rfl) (by kernel_rfl) (by kernel_rfl) (fun _ _ _ h => h) (Or.inl ⟨by rfl, ?_⟩) (by assumption) ?_
          rotate_left
          · intro w hSw
            (try dsimp only at hSw)
            go_simp
            try with_reducible rfl
          refine wpAnyM_take (i := 5) (v := ?_) rfl (by kernel_rfl) (by kernel_rfl) (by kernel_rfl) (by kernel_rfl) (fun _ _ _ h => h) (Or.inl ⟨by rfl, ?_⟩) (by assumption) ?_
          rotate_left
          · intro w hSw
            (try dsimp only at hSw)
            go_simp
            try with_reducible rfl
          refine wpAnyM_take (i := 6) (v := ?_) rfl (by kernel_rfl) (by kernel_rfl) (by kernel_rfl) (by kernel_rfl) (fun _ _ _ h => h) (Or.inl ⟨by rfl, ?_⟩) (by assumption) ?_
          rotate_left
          · intro w hSw
            (try dsimp only at hSw)
            go_simp
            try with_reducible rfl
          refine wpAnyM_take (i := 7) (v := ?_) rfl (by kernel_rfl) (by kernel_rfl) (by kernel_rfl) (by kernel_rfl) (fun _ _ _ h => h) (Or.inl ⟨by rfl, ?_⟩) (by assumption) ?_
          rotate_left
          · intro w hSw
            (try dsimp only at hSw)
            go_simp
            try with_reducible rfl
          refine wpAnyM_take (i := 8) (v := ?_) rfl (by kernel_rfl) (by kernel_rfl) (by kernel_rfl) (by kernel_rfl) (fun _ _ _ h => h) (Or.inl ⟨by rfl, ?_⟩) (by assumption) ?_
          rotate_left
          · intro w hSw
            (try dsimp only at hSw)
            go_simp
            try with_reducible rfl
          refine wpAnyM_take (i := 9) (v := ?_) rfl (by kernel_rfl) (by kernel_rfl) (by kernel_rfl) (by kernel_rfl) (fun _ _ _ h => h) (Or.inl ⟨by rfl, ?_⟩) (by assumption) ?_
          rotate_left
          · intro w hSw
            (try dsimp only at hSw)
            go_simp
            try with_reducible rfl
          refine wpAnyM_take (i := 10) (v := ?_) rfl (by kernel_rfl) (by kernel_rfl) (by kernel_rfl) (by kernel_rfl) (fun _ _ _ h => h) (Or.inl ⟨by rfl, ?_⟩) (by assumption) ?_
          rotate_left
          · intro w hSw
            (try dsimp only at hSw)
            go_simp
            try with_reducible rfl
          refine wpAnyM_take (i := 11) (v := ?_) rfl (by kernel_rfl) (by kernel_rfl) (by kernel_rfl) (by kernel_rfl) (fun _ _ _ h => h) (Or.inl ⟨by rfl, ?_⟩) (by assumption) ?_
          rotate_left
          · intro w hSw
            (try dsimp only at hSw)
            go_simp
            try with_reducible rfl
          refine wpAnyM_one (i := 4) rfl (by kernel_rfl) (fun K4 hK4 => ?_)
          go_simp
          (go_at_call 99; (with_reducible refine (HIR.out _).mono ?_); rintro e x1 ⟨rfl, hbx⟩; have hzx := hbx.size; (try simp at hzx); have hBx : Below wr.heap.size wr x1 := (by repeat (first | (with_reducible exact Below.refl _ _) | (with_reducible assumption) | ((with_reducible refine Below.alloc ?_ ?_ _); rotate_left; (first | omega | (simp <;> omega))) | ((with_reducible refine Below.setCell ?_ ?_ _); rotate_left; (first | omega | (simp <;> omega))) | (with_reducible refine below_drewN ?_ _) | (with_reducible refine Below.drew ?_) | ((with_reducible refine Below.step (by assumption) ?_ ?_); rotate_left; (first | omega | (simp <;> omega))))); have ccx := (bcell hBx).1; have ffx := (bcell hBx).2; have zx0 : w.heap.size < x1.heap.size := (by omega); have zx1 : w.heap.size + 1 < x1.heap.size := (by omega); have zx2 : w1.heap.size < x1.heap.size := (by omega))
          try go_wp2_with fail
          refine hK4.out _ _ (fun _ => by (try dsimp only); refine ⟨?_, ?_, ?_, ?_, ?_, ?_⟩ <;> (go_simp; done)) (fun hHeld4 => ?_)
          have hX := hHeld4 (by decide)
          refine wpAnyM_take (i := 12) (v := ?_) rfl (by kernel_rfl) (by kernel_rfl) (by kernel_rfl) (by kernel_rfl) (fun _ _ _ h => h) (Or.inl ⟨by rfl, ?_⟩) (by assumption) ?_
          rotate_left
          · intro w hSw
            (try dsimp only at hSw)
            go_simp
            try with_reducible rfl
          refine wpAnyM_one (i := 13) rfl (by kernel_rfl) (fun K13 hK13 => ?_)
          (refine step_app (by rfl) _ _ 22 (by rfl) (w1.heap.size + 1) 3 (.int .i64 0) 1 8 Try.underlying22 T.infoInt rfl (by decide) (xs := ints (cropTo l a xn yn pn (j - yn))) (by rfl) ?_ (ys := ints ((l.drop (r + xn)).take pn)) (by rfl) ?_ (ints_one _) ?_ ?_ ?_ ?_; (exact (by repeat (first | (with_reducible exact HG.out) | (with_reducible refine Grow.alloc ?_ _) | (with_reducible refine Grow.drewN ?_ _) | (with_reducible refine Grow.drew ?_) | ((with_reducible refine Grow.far ?_ ?_ _); rotate_left; (first | omega | (simp <;> omega))) | (with_reducible refine Grow.step (by assumption) ?_)))); (exact HPt.out _ hBx); (unfold maxLen; omega); (omega); (first | omega | (simp <;> omega)); rintro A' c' w2 gA; have hgx : Own w2 w1.heap.size 44 [.int .i64 pn, .int .i64 qn, .slice C n q] := Own.below (by repeat (first | (with_reducible exact HOW.out) | ((with_reducible refine Own.far ?_ ?_ _); rotate_left; (first | omega | (simp <;> omega))) | (with_reducible refine Own.alloc ?_ _) | (with_reducible refine Own.drewN ?_ _) | (with_reducible refine Own.drew ?_) | (with_reducible refine Own.step (by assumption) ?_))) gA.2.1 (Nat.lt_succ_self _); have hgc := hgx.cell 2; have hgf := hgx.frozen 2; have hgs := hgx.lt; have HO2 := Lib.hid hgx; have HG2 := Lib.hid gA.1; have hb2 := gA.2.1; have cc2 := (bcell hb2).1; have hB2 : Below w1.heap.size w1 w2 := Below.trans (Below.trans HB.out (hBx.mono (by omega))) (gA.2.1.mono (Nat.le_succ _)); have HB2 := Lib.hid hB2; clear gA hgx)
          refine hK13.out _ _ (fun _ => by (try dsimp only); refine ⟨?_, ?_, ?_, ?_, ?_, ?_⟩ <;> (go_simp; done)) (fun hHeld13 => ?_)
          have hX2 := hHeld13 (by decide)
          refine wpAnyM_take (i := 14) (v := ?_) rfl (by kernel_rfl) (by kernel_rfl) (by kernel_rfl) (by kernel_rfl) (fun _ _ _ h => h) (Or.inl ⟨by rfl, ?_⟩) (by assumption) ?_
          rotate_left
          · intro w hSw
            (try dsimp only at hSw)
            go_simp
            try with_reducible rfl
          refine wpAnyM_one (i := 15) rfl (by kernel_rfl) (fun K15 hK15 => ?_)
          go_simp
          refine hK15.out _ _ (fun h => absurd rfl h) (fun hHeld15 => ?_)
          refine wpAnyM_done (by kernel_rfl) ?_ _
          all_goals
            go_wp2
            go_roundw
            case rel => exact ⟨j + 1, A', n + pn, c', by omega, by omega, by go_num, Own.set_ HO2.out 2 _, by rw [show j + 1 - yn = (j - yn) + 1 by omega, HS.out, HJ.out]; have hg2 := HG2.out; rw [← List.map_append] at hg2; exact hg2.far (by simp) _, HB2.out.setCell (Nat.le_refl _) _⟩
            case measure => simp [intOf]; omega
        · obtain rfl : j = yn + qn := by omega
          have hq : yn + qn - yn = qn := by omega
          rw [hq] at HG
          have hlen' : n = (cropTo l a xn yn pn qn).length := by have := HG.out.len; simpa using this.symm
          have HL' := Lib.hid hlen'
          clear hlen'
          go_wp2
          rw [HV.out]
          refine bodyPost_ret (v := .tuple #[vImage pn qn (.slice C n q), .bool true]) (by simp [results, Try.results48, go_sem, *]) rfl ?_
          refine ⟨C, q, by rw [HL'.out]; rfl, ?_, ?_, ?_⟩
          · show OwnS _ 1 C (cropTo l a xn yn pn qn).length q 3 (ints (cropTo l a xn yn pn qn))
            rw [← HL'.out]
            exact Grow.ownS (base := w1.heap.size + 1) (by repeat (first | (with_reducible exact HG.out) | (with_reducible refine Grow.alloc ?_ _) | (with_reducible refine Grow.drewN ?_ _) | (with_reducible refine Grow.drew ?_) | ((with_reducible refine Grow.far ?_ ?_ _); rotate_left; (first | omega | (simp <;> omega))) | (with_reducible refine Grow.step (by assumption) ?_)))
          · intro x hx
            have := HG.out.ge x hx
            omega
          · have hbx : Below w.heap.size w wr := hB1.trans (HB.out.mono (by omega))
            exact (by repeat (first | (with_reducible exact Below.refl _ _) | (with_reducible exact hbx) | (with_reducible assumption) | ((with_reducible refine Below.alloc ?_ ?_ _); rotate_left; (first | omega | (simp <;> omega))) | ((with_reducible refine Below.setCell ?_ ?_ _); rotate_left; (first | omega | (simp <;> omega))) | (with_reducible refine below_drewN ?_ _) | (with_reducible refine Below.drew ?_) | ((with_reducible refine Below.step (by assumption) ?_ ?_); rotate_left; (first | omega | (simp <;> omega)))))
    case false =>
      have HV : Hid (CropR (cropOk W H l x y p q) p q (cropTo l W.toNat x.toNat y.toNat p.toNat q.toNat) w = CropR false p q (cropTo l W.toNat x.toNat y.toNat p.toNat q.toNat) w) := by show _ = _; unfold cropOk; rw [hv, hi]; rfl
      go_enter Try.func48, Try.ntmps48
      go_wp2_with fail
      refine (I_IsValidImage _ (RS.step (by repeat (first | (with_reducible exact Below.refl _ _) | (with_reducible assumption) | ((with_reducible refine Below.alloc ?_ ?_ _); rotate_left; (first | omega | (simp <;> omega))) | ((with_reducible refine Below.setCell ?_ ?_ _); rotate_left; (first | omega | (simp <;> omega))) | (with_reducible refine below_drewN ?_ _) | (with_reducible refine Below.drew ?_) | ((with_reducible refine Below.step (by assumption) ?_ ?_); rotate_left; (first | omega | (simp <;> omega))))) H0.out)).mono ?_
      rintro e w' ⟨rfl, hb⟩; have hz := hb.size; (try simp at hz); have c0 := fun o => hb.cell (p := ⟨w.heap.size, o, none⟩) (by first | omega | (simp <;> omega)); have f0 := fun o => hb.frozen (p := ⟨w.heap.size, o, none⟩) (by first | omega | (simp <;> omega)); have z0 : w.heap.size < w'.heap.size := (by omega); have c1 := fun o => hb.cell (p := ⟨w.heap.size + 1, o, none⟩) (by first | omega | (simp <;> omega)); have f1 := fun o => hb.frozen (p := ⟨w.heap.size + 1, o, none⟩) (by first | omega | (simp <;> omega)); have z1 : w.heap.size + 1 < w'.heap.size := (by omega); have c2 := fun o => hb.cell (p := ⟨w.heap.size + 1 + 1, o, none⟩) (by first | omega | (simp <;> omega)); have f2 := fun o => hb.frozen (p := ⟨w.heap.size + 1 + 1, o, none⟩) (by first | omega | (simp <;> omega)); have z2 : w.heap.size + 1 + 1 < w'.heap.size := (by omega)
      go_wp2_with (go_at_call 98; refine (I_inside _ ⟨hW1, hW2⟩ ⟨hH1, hH2⟩).mono ?_; rintro e w' ⟨rfl, hb⟩; have hz := hb.size; (try simp at hz); have c0 := fun o => hb.cell (p := ⟨w.heap.size, o, none⟩) (by first | omega | (simp <;> omega)); have f0 := fun o => hb.frozen (p := ⟨w.heap.size, o, none⟩) (by first | omega | (simp <;> omega)); have z0 : w.heap.size < w'.heap.size := (by omega); have c1 := fun o => hb.cell (p := ⟨w.heap.size + 1, o, none⟩) (by first | omega | (simp <;> omega)); have f1 := fun o => hb.frozen (p := ⟨w.heap.size + 1, o, none⟩) (by first | omega | (simp <;> omega)); have z1 : w.heap.size + 1 < w'.heap.size := (by omega); have c2 := fun o => hb.cell (p := ⟨w.heap.size + 1 + 1, o, none⟩) (by first | omega | (simp <;> omega)); have f2 := fun o => hb.frozen (p := ⟨w.heap.size + 1 + 1, o, none⟩) (by first | omega | (simp <;> omega)); have z2 : w.heap.size + 1 + 1 < w'.heap.size := (by omega))
      rw [HV.out]
      exact bodyPost_ret (v := .tuple #[vImage 0 0 (.slice none 0 0), .bool false]) (by simp [results, Try.results48, go_sem, *]) rfl (CropR.no (by repeat (first | (with_reducible exact Below.refl _ _) | (with_reducible assumption) | ((with_reducible refine Below.alloc ?_ ?_ _); rotate_left; (first | omega | (simp <;> omega))) | ((with_reducible refine Below.setCell ?_ ?_ _); rotate_left; (first | omega | (simp <;> omega))) | (with_reducible refine below_drewN ?_ _) | (with_reducible refine Below.drew ?_) | ((with_reducible refine Below.step (by assumption) ?_ ?_); rotate_left; (first | omega | (simp <;> omega))))))
end Go.Proofs.Ytndipkclmecpoaa
