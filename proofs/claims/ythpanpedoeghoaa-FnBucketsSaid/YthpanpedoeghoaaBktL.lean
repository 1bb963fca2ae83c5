/- FnBuckets: the law behind BucketsOf. -/
import Derived.Test.YthpanpedoeghoaaBktM
import Derived.Deep.DeepCutAuto
import Derived.Test.YthpanpedoeghoaaPhaseN
import Derived.Deep.RegionHeld3
set_option linter.unusedVariables false
set_option linter.unusedSimpArgs false
set_option linter.unnecessarySimpa false
namespace Go.Proofs.Ythpanpedoeghoaa
open Go.RowKit
set_option linter.unusedVariables false
set_option linter.unusedSimpArgs false
set_option maxRecDepth 100000
noncomputable def R34 : Code := match Try.f3.body.getD .skip with | .seq _ (.seq _ (.seq _ (.seq _ r))) => r | _ => .skip
set_option maxHeartbeats 16000000 in
theorem L_tail {a b s Bc cc : Nat} {x y u v : Int} {e : Bool} {A : Option Addr} (w : World) (ha : 2 ≤ a ∧ a ≤ 5) (hb : 2 ≤ b ∧ b ≤ 5) (hs : 1 ≤ s ∧ s ≤ 5) (hv : validCam a b x y u v = true)
    (hBc : Own w Bc 24 [.int .i64 a, .int .i64 b, .int .i64 x, .int .i64 y, .bool e, .int .i64 u, .int .i64 v]) (hL : RS w 4 A (bks a b s).length cc (rBucket (bks a b s))) (v0 v1 v2 v5 v6 v7 v8 v9 v10 v11 v12 v13 v14 v15 v16 v17 v18 v19 v20 v21 v22 v23 v24 v25 v26 v27 v28 v29 v30 v31 v32 v33 v34 v35 v36 v37 v38 v39 v40 v41 v42 v43 v44 v45 v46 v47 v48 v49 v50 v51 v52 v53 v54 v55 v56 v57 v58 v59 v60 v61 v62 v63 v64 v65 v66 v67 v68 v69 v70 v71 v72 v73 v74 v75 v76 v77 v78 v79 v80 v81 v82 v83 v84 v85 v86 v87 v88 v89 v90 v91 v92 v93 v94 v95 v96 v97 v98 v99 v100 v101 v102 v103 v104 v105 v106 v107 : Value) :
    R34.wp Try.prog (bodyPost Try.prog Try.f3 fun r w' => r = .returned (.bool true) ∧ Below w.heap.size w w') ⟨#[v0, v1, v2, .pointer (some ⟨Bc, 0, none⟩), .slice A (bks a b s).length cc, v5, v6, v7, v8, v9, v10, v11, v12, v13, v14, v15, v16, v17, v18, v19, v20, v21, v22, v23, v24, v25, v26, v27, v28, v29, v30, v31, v32, v33, v34, v35, v36, v37, v38, v39, v40, v41, v42, v43, v44, v45, v46, v47, v48, v49, v50, v51, v52, v53, v54, v55, v56, v57, v58, v59, v60, v61, v62, v63, v64, v65, v66, v67, v68, v69, v70, v71, v72, v73, v74, v75, v76, v77, v78, v79, v80, v81, v82, v83, v84, v85, v86, v87, v88, v89, v90, v91, v92, v93, v94, v95, v96, v97, v98, v99, v100, v101, v102, v103, v104, v105, v106, v107], []⟩ w := by
  have hnm := bks_small ha hb hs.1
  rw [← bks_len] at hnm
  obtain ⟨N, hN⟩ : ∃ N, a * b = N := ⟨_, rfl⟩
  have hN25 : N ≤ 25 := by rw [← hN]; exact Nat.mul_le_mul ha.2 hb.2
  have HL := Lib.hid hL
  have HV := Lib.hid hv
  have HN := Lib.hid hN
  have HE := Lib.hid (endK (a := a) (b := b) (s := s) (by omega) (by omega) hs.1)
  have HK := Lib.hid (fun k (h : k < nb a s * nb b s) => roundK (a := a) (b := b) (s := s) (k := k) (by omega) (by omega) hs.1 h)
  have HBL := Lib.hid (bks_len a b s)
  have HKL : Hid ((bks a b s).length = (bks a b s).length) := rfl
  have hlt := hBc.lt
  have HB := Lib.hid hBc
  obtain ⟨ha1, ha2⟩ := ha
  obtain ⟨hb1, hb2⟩ := hb
  have q0 := hBc.cell 0
  have q1 := hBc.cell 1
  have q2 := hBc.cell 2
  have q3 := hBc.cell 3
  have q4 := hBc.cell 4
  have q5 := hBc.cell 5
  have q6 := hBc.cell 6
  simp only [List.getElem?_cons_zero, List.getElem?_cons_succ] at q0 q1 q2 q3 q4 q5 q6
  clear hL hv hBc hs hN
  generalize hl : (bks a b s).length = K at *
  simp only [R34, Try.f3, Option.getD_some]
  go_wp2_with fail
  refine (I_newK _ HN.out hN25 s HV.out).mono ?_
  rintro r w1 ⟨P1, P2, j1, j2, rfl, r1, r2, hB1⟩
  have hz1 := hB1.size
  have R1 := Lib.hid r1
  have R2 := Lib.hid r2
  have HB1 := Lib.hid hB1
  clear r1 r2 hB1 q0 q1 q2 q3 q4 q5 q6
  go_wp2_with fail
  have HF0 : Hid (Own (w1.alloc (.cells #[.int .i64 a, .int .i64 b, .slice P1 N j1, .slice P2 N j2] 32)) w1.heap.size 32 [.int .i64 a, .int .i64 b, .slice P1 N j1, .slice P2 N j2]) := Own.new _ _ _
  have HW0 : Hid (Below w.heap.size w (w1.alloc (.cells #[.int .i64 a, .int .i64 b, .slice P1 N j1, .slice P2 N j2] 32))) := HB1.out.alloc (by have := HB1.out.size; omega) _
  have HC0 : Hid ((donK a b s 0).count true = 0) := by show _ = _; rw [donK_zero, List.count_replicate]; rfl
  go_loopw [6, 7, 9, 28] (fun _ n _ i wr => ∃ (k : Nat) (Q1 Q2 : Option Addr) (d1 d2 : Nat), k ≤ K ∧ i = .int .i64 k ∧ n = .int .i64 ((donK a b s k).count true : Nat) ∧ Own wr w1.heap.size 32 [.int .i64 a, .int .i64 b, .slice Q1 N d1, .slice Q2 N d2] ∧ RS wr 1 Q1 N d1 (ints (pixZ a b)) ∧ RS wr 1 Q2 N d2 (bools (donK a b s k)) ∧ Below w.heap.size w wr) (fun _ _ _ i _ => K - (intOf i).toNat)
  case atStart => exact ⟨0, P1, P2, j1, j2, Nat.zero_le _, rfl, by rw [HC0.out]; rfl, HF0.out, R1.out.alloc _, R2.out.alloc _, HW0.out⟩
  case round =>
    obtain ⟨k, Q1, Q2, d1, d2, hk, rfl, rfl, hf, g1, g2, hbw⟩ := hrel
    have HF := Lib.hid hf
    have G1 := Lib.hid g1
    have G2 := Lib.hid g2
    have HBW := Lib.hid hbw
    have HLr := Lib.hid (RS.step hbw HL.out)
    have HBr := Lib.hid (HB.out.below hbw hlt)
    have hzr := hbw.size
    have hfl := hf.lt
    have hnc : (donK a b s k).count true ≤ N := by
      have := List.count_le_length (a := true) (l := donK a b s k)
      rw [donK_len, HN.out] at this
      exact this
    clear hf g1 g2 hbw
    have HKA : Hid (∀ j, (h : j < (bks a b s).length) → (bks a b s)[j] = bkAt a b s j) := fun j h => bks_at h
    by_cases hlt' : k < K
    · obtain ⟨bx, by_, bp, bq, ebk, p1, q1, pa, qb, hin, hmi, hok, hsS, hsT, hcn⟩ := HK.out k (by have := HBL.out; omega)
      obtain ⟨bl, off, rfl, hbh, hcell⟩ := HLr.out.open_.2.2 (by omega)
      have hkl : k < (bks a b s).length := by rw [hl]; exact hlt'
      obtain ⟨q0, q1', q2, q3⟩ := rBucket_at (l := bks a b s) hkl
      rw [HKA.out k hkl, ebk] at q0 q1' q2 q3
      have z0 : wr.cell? ⟨bl, off + k * 4, none⟩ = some (.int .i64 bx) := by rw [hcell _ (by omega), q0]
      have z1 : wr.cell? ⟨bl, off + k * 4 + 1, none⟩ = some (.int .i64 by_) := by rw [show off + k * 4 + 1 = off + (k * 4 + 1) by omega, hcell _ (by omega), q1']
      have z2 : wr.cell? ⟨bl, off + k * 4 + 2, none⟩ = some (.int .i64 bp) := by rw [show off + k * 4 + 2 = off + (k * 4 + 2) by omega, hcell _ (by omega), q2]
      have z3 : wr.cell? ⟨bl, off + k * 4 + 3, none⟩ = some (.int .i64 bq) := by rw [show off + k * 4 + 3 = off + (k * 4 + 3) by omega, hcell _ (by omega), q3]
      have i1 : (0 : Int) ≤ k := by omega
      have i2 : (k : Int) < K := by omega
      have hp1 : ¬ (bp : Int) < 1 := by omega
      have hq1 : ¬ (bq : Int) < 1 := by omega
      have hpa : ¬ (a : Int) < bp := by omega
      have hqb : ¬ (b : Int) < bq := by omega
      obtain ⟨m, hm⟩ : ∃ m, bp * bq = m := ⟨_, rfl⟩
      have hm25 : m ≤ 25 := by rw [← hm]; exact Nat.mul_le_mul (show bp ≤ 5 by omega) (show bq ≤ 5 by omega)
      have HM := Lib.hid hm
      have yPQ : IntKind.i64.wrap ((bp : Int) * (bq : Int)) = (m : Int) := by rw [← Int.natCast_mul, hm]; exact IntWalk.i64_in _ (by omega)
      generalize hc0 : (donK a b s k).count true = c0 at *
      have HCN : Hid ((donK a b s (k + 1)).count true = c0 + m) := by show _ = _; rw [hcn, hm]
      have yS : IntKind.i64.wrap ((c0 : Int) + (m : Int)) = (c0 : Int) + (m : Int) := IntWalk.i64_in _ (by omega)
      have yk : IntKind.i64.wrap ((k : Int) + 1) = (k : Int) + 1 := IntWalk.i64_in _ (by omega)
      have e0 := HBr.out.cell 0
      have e1 := HBr.out.cell 1
      have e2 := HBr.out.cell 2
      have e3 := HBr.out.cell 3
      have e4 := HBr.out.cell 4
      have e5 := HBr.out.cell 5
      have e6 := HBr.out.cell 6
      have f0 := HF.out.cell 0
      have f1 := HF.out.cell 1
      have f2 := HF.out.cell 2
      have f3 := HF.out.cell 3
      have ff := HF.out.frozen
      simp only [List.getElem?_cons_zero, List.getElem?_cons_succ] at e0 e1 e2 e3 e4 e5 e6 f0 f1 f2 f3
      have hbl : Bc < wr.heap.size := by omega
      have hbl1 : Bc < wr.heap.size + 1 := by omega
      have hfl1 : w1.heap.size < wr.heap.size + 1 := by omega
      have ncb : ¬ wr.heap.size = Bc := by omega
      have ncb' : ¬ Bc = wr.heap.size := by omega
      have nfb : ¬ wr.heap.size = w1.heap.size := by omega
      have nfb' : ¬ w1.heap.size = wr.heap.size := by omega
      have HIN := Lib.hid hin
      have HMI := Lib.hid hmi
      have HOK := Lib.hid (And.intro hok (And.intro hsS hsT))
      have HAS : Hid (k + 1 ≤ K) := hlt'
      clear hcell q0 q1' q2 q3 ebk hin hmi hok hsS hsT hcn hm hkl
      go_wp2_with (go_at_call 8; refine (I_IsValidBucket _ HV.out).mono ?_; rw [HIN.out]; rintro ee w2 ⟨rfl, hb2⟩; have hz2 := hb2.size; (try simp at hz2); have HB2w := Lib.hid (hb2.mono (show wr.heap.size + 1 ≤ _ by first | omega | (simp <;> omega))); obtain ⟨cc2, ff2⟩ := bcell HB2w.out; clear hb2)
      have HW2 : Hid (Below wr.heap.size wr w2) := Below.trans (Below.alloc (Below.refl _ _) (Nat.le_refl _) _) (HB2w.out.mono (by omega))
      have HN2 : Hid (Own (w2.alloc (.cells #[.int .i64 bx, .int .i64 by_, .int .i64 bp, .int .i64 bq] 36)) w2.heap.size 36 [.int .i64 bx, .int .i64 by_, .int .i64 bp, .int .i64 bq]) := Own.new _ _ _
      have HV2 : Hid (Below wr.heap.size wr (w2.alloc (.cells #[.int .i64 bx, .int .i64 by_, .int .i64 bp, .int .i64 bq] 36))) := HW2.out.alloc (HW2.out.size) _
      refine (I_missK (m := 1) (k := k) (s := s) (a := a) (b := b) (l := [((bx : Int), (by_ : Int), (bp : Int), (bq : Int))]) _ HN.out rfl (by omega) HMI.out 1 rfl (RS.step HV2.out G1.out) (RS.step HV2.out G2.out) (HN2.out.rd rfl (fun j hj => rfl) (Nat.zero_le _) HN2.out.lt (by simp [maxLen]))).mono ?_
      rintro ee w3 ⟨Q3, j3, rfl, hb3⟩
      have hz3 := hb3.size
      (try simp at hz3)
      have hB3 : Below (wr.heap.size + 1) (wr.alloc (.cells #[.int .i64 bx, .int .i64 by_, .int .i64 bp, .int .i64 bq] 36)) w3 := Below.trans HB2w.out (Below.trans (Below.alloc (Below.refl _ _) (by have := HB2w.out.size; simp at this; omega) _) (hb3.mono (by have := HB2w.out.size; simp at this ⊢; omega)))
      have HB3 := Lib.hid hB3
      obtain ⟨cc3, ff3⟩ := bcell hB3
      have HW3 : Hid (Below wr.heap.size wr w3) := Below.trans (Below.alloc (Below.refl _ _) (Nat.le_refl _) _) (hB3.mono (by omega))
      have zr3 : wr.heap.size < w3.heap.size := by omega
      clear hb3 hB3 cc2 ff2 HB2w HN2 HV2 HW2
      go_wp2_with fail
      have g0 : w3.cell? ⟨w1.heap.size, 0, none⟩ = some (.int .i64 a) := by rw [cc3 _ _ hfl1]; go_simp
      have g1 : w3.cell? ⟨w1.heap.size, 1, none⟩ = some (.int .i64 b) := by rw [cc3 _ _ hfl1]; go_simp
      have g2 : w3.cell? ⟨w1.heap.size, 2, none⟩ = some (.slice Q1 N d1) := by rw [cc3 _ _ hfl1]; go_simp
      have g3 : w3.cell? ⟨w1.heap.size, 3, none⟩ = some (.slice Q2 N d2) := by rw [cc3 _ _ hfl1]; go_simp
      have h0 : w3.cell? ⟨wr.heap.size, 0, none⟩ = some (.int .i64 bx) := by rw [cc3 _ _ (by omega)]; go_simp
      have h1 : w3.cell? ⟨wr.heap.size, 1, none⟩ = some (.int .i64 by_) := by rw [cc3 _ _ (by omega)]; go_simp
      have h2 : w3.cell? ⟨wr.heap.size, 2, none⟩ = some (.int .i64 bp) := by rw [cc3 _ _ (by omega)]; go_simp
      have h3 : w3.cell? ⟨wr.heap.size, 3, none⟩ = some (.int .i64 bq) := by rw [cc3 _ _ (by omega)]; go_simp
      have gf : ∀ i, w3.frozen? ⟨w1.heap.size, i, none⟩ = false := fun i => by rw [ff3 _ _ hfl1]; go_simp
      have hmk : ∀ wx : World, (Instr.makeSlice 29 (.int .i64 m) (.int .i64 m)).run Try.prog wx = .ok (.slice (some ⟨wx.heap.size, 0, none⟩) m m) (wx.alloc (.cells (madeCells #[Value.int .i64 0] m) 3)) := by
        intro wx
        have := run_mk (P := Try.prog) 29 3 _ 1 8 Try.underlying29 T.infoInt m (by omega) (by omega) wx
        simp only [Nat.mul_one] at this
        exact this
      have G31 := Lib.hid (RS.step HW3.out G1.out)
      have G32 := Lib.hid (RS.step HW3.out G2.out)
      have HF3 : Hid (Own w3 w1.heap.size 32 [.int .i64 a, .int .i64 b, .slice Q1 N d1, .slice Q2 N d2]) := HF.out.below HW3.out hfl
      have zf3 : w1.heap.size < w3.heap.size := by omega
      have HK3 : Hid (Own w3 wr.heap.size 36 [.int .i64 bx, .int .i64 by_, .int .i64 bp, .int .i64 bq]) := Own.below (Own.new wr 36 #[.int .i64 bx, .int .i64 by_, .int .i64 bp, .int .i64 bq]) HB3.out (by omega)
      have HS3 : Hid (RS (w3.drew.alloc (.cells (madeCells #[Value.int .i64 0] m) 3)) 1 (some ⟨w3.heap.size, 0, none⟩) m m (ints (List.replicate m 0))) := by
        have h := Own.new w3.drew 3 (madeCells #[Value.int .i64 0] m)
        rw [zeros_ints] at h
        exact h.rd (by simp) (fun j hj => rfl) (Nat.zero_le _) h.lt (by simp only [maxLen]; omega)
      have n31 : ¬ w3.heap.size = w1.heap.size := by omega
      have n32 : ¬ w3.heap.size = wr.heap.size := by omega
      have HD3 : Hid (Below w3.heap.size w3 (w3.drew.alloc (.cells (madeCells #[Value.int .i64 0] m) 3))) := Below.alloc (Below.drew (Below.refl _ _)) (Nat.le_refl _) _
      have HWW : Hid (Below w.heap.size w w3) := Below.trans HBW.out (HW3.out.mono hzr)
      clear cc3 ff3 HB3 z0 z1 z2 z3 e0 e1 e2 e3 e4 e5 e6 f0 f1 f2 f3 ff hbh
      refine wp_region_N (S := (fun w' => w'.cell? ⟨w1.heap.size, 0, none⟩ = some (.int .i64 a) ∧ w'.cell? ⟨w1.heap.size, 1, none⟩ = some (.int .i64 b) ∧ w'.cell? ⟨w1.heap.size, 2, none⟩ = some (.slice Q1 N d1) ∧ w'.cell? ⟨w1.heap.size, 3, none⟩ = some (.slice Q2 N d2) ∧ w'.cell? ⟨wr.heap.size, 0, none⟩ = some (.int .i64 bx) ∧ w'.cell? ⟨wr.heap.size, 1, none⟩ = some (.int .i64 by_) ∧ w'.cell? ⟨wr.heap.size, 2, none⟩ = some (.int .i64 bp) ∧ w'.cell? ⟨wr.heap.size, 3, none⟩ = some (.int .i64 bq))) 12 (by kernel_rfl) (by (try dsimp only); refine ⟨?_, ?_, ?_, ?_, ?_, ?_, ?_, ?_⟩ <;> (go_simp; done)) (fun hHeld => ?_)
      refine wpAnyN_take (i := 0) (v := ?_) rfl (by kernel_rfl) (by kernel_rfl) (by kernel_rfl) (by kernel_rfl) (fun _ _ _ h => h) (Or.inl ⟨by rfl, ?_⟩) (by assumption) ?_; rotate_left; focus (intro w hSw; (try dsimp only at hSw); go_simp; try with_reducible rfl)
      refine wpAnyN_take (i := 1) (v := ?_) rfl (by kernel_rfl) (by kernel_rfl) (by kernel_rfl) (by kernel_rfl) (fun _ _ _ h => h) (Or.inl ⟨by rfl, ?_⟩) (by assumption) ?_; rotate_left; focus (intro w hSw; (try dsimp only at hSw); go_simp; try with_reducible rfl)
      refine wpAnyN_take (i := 2) (v := ?_) rfl (by kernel_rfl) (by kernel_rfl) (by kernel_rfl) (by kernel_rfl) (fun _ _ _ h => h) (Or.inl ⟨by rfl, ?_⟩) (by assumption) ?_; rotate_left; focus (intro w hSw; (try dsimp only at hSw); go_simp; try with_reducible rfl)
      refine wpAnyN_take (i := 3) (v := ?_) rfl (by kernel_rfl) (by kernel_rfl) (by kernel_rfl) (by kernel_rfl) (fun _ _ _ h => h) (Or.inl ⟨by rfl, ?_⟩) (by assumption) ?_; rotate_left; focus (intro w hSw; (try dsimp only at hSw); go_simp; try with_reducible rfl)
      refine wpAnyN_take (i := 4) (v := ?_) rfl (by kernel_rfl) (by kernel_rfl) (by kernel_rfl) (by kernel_rfl) (fun _ _ _ h => h) (Or.inl ⟨by rfl, ?_⟩) (by assumption) ?_; rotate_left; focus (intro w hSw; (try dsimp only at hSw); go_simp; try with_reducible rfl)
      refine wpAnyN_take (i := 5) (v := ?_) rfl (by kernel_rfl) (by kernel_rfl) (by kernel_rfl) (by kernel_rfl) (fun _ _ _ h => h) (Or.inl ⟨by rfl, ?_⟩) (by assumption) ?_; rotate_left; focus (intro w hSw; (try dsimp only at hSw); go_simp; try with_reducible rfl)
      refine wpAnyN_take (i := 6) (v := ?_) rfl (by kernel_rfl) (by kernel_rfl) (by kernel_rfl) (by kernel_rfl) (fun _ _ _ h => h) (Or.inl ⟨by rfl, ?_⟩) (by assumption) ?_; rotate_left; focus (intro w hSw; (try dsimp only at hSw); go_simp; try with_reducible rfl)
      refine wpAnyN_one (i := 7) rfl (by kernel_rfl) (fun K7 hK7 => ?_)
      go_simp
      refine hK7.out _ _ (fun _ => (by (try dsimp only); refine ⟨?_, ?_, ?_, ?_, ?_, ?_, ?_, ?_⟩ <;> (go_simp; done))) (fun hHeld7 => ?_)
      have hXX7 := hHeld7 (by decide)
      refine wpAnyN_one (i := 8) rfl (by kernel_rfl) (fun K8 hK8 => ?_)
      go_simp
      refine (I_putK (x := bx) (y := by_) (p := bp) (q := bq) (k := k) (s := s) (a := a) (b := b) _ HN.out hN25 HM.out HOK.out.1 HOK.out.2.1 HOK.out.2.2 (RS.step HD3.out G31.out) (RS.step HD3.out G32.out) HS3.out).mono ?_
      rintro ee w4 ⟨Q4, Q5, d4, d5, rfl, r4, r5, k4, k5, hb4⟩
      have hz4 := hb4.size
      (try simp at hz4)
      have hb4' : Below w3.heap.size w3 w4 := Below.trans HD3.out (hb4.mono (by simp))
      have HF4 : Hid (Own w4 w1.heap.size 32 [.int .i64 a, .int .i64 b, .slice Q1 N d1, .slice Q2 N d2]) := Own.below HF3.out hb4' zf3
      have HK4 : Hid (Own w4 wr.heap.size 36 [.int .i64 bx, .int .i64 by_, .int .i64 bp, .int .i64 bq]) := Own.below HK3.out hb4' zr3
      have t5 := HK4.out.cell 0
      have t6 := HK4.out.cell 1
      have t7 := HK4.out.cell 2
      have t8 := HK4.out.cell 3
      have t0 := HF4.out.cell 0
      have t1 := HF4.out.cell 1
      have t2 := HF4.out.cell 2
      have t3 := HF4.out.cell 3
      have tf := HF4.out.frozen
      simp only [List.getElem?_cons_zero, List.getElem?_cons_succ] at t0 t1 t2 t3 t5 t6 t7 t8
      have G41 := Lib.hid r4
      have G42 := Lib.hid r5
      have HW4 : Hid (Below w.heap.size w w4) := Below.trans HWW.out (hb4'.mono HWW.out.size)
      have hge4 : ∀ ad, Q4 = some ad → ad.block ≠ w1.heap.size := fun ad h => by have := k4 ad h; simp at this; omega
      have hge5 : ∀ ad, Q5 = some ad → ad.block ≠ w1.heap.size := fun ad h => by have := k5 ad h; simp at this; omega
      have HX5 : Hid (Own ((((w4.setCell ⟨w1.heap.size, 0, none⟩ (.int .i64 a)).setCell ⟨w1.heap.size, 1, none⟩ (.int .i64 b)).setCell ⟨w1.heap.size, 2, none⟩ (.slice Q4 N d4)).setCell ⟨w1.heap.size, 3, none⟩ (.slice Q5 N d5)) w1.heap.size 32 [.int .i64 a, .int .i64 b, .slice Q4 N d4, .slice Q5 N d5]) := (((HF4.out.set_ 0 (.int .i64 a)).set_ 1 (.int .i64 b)).set_ 2 (.slice Q4 N d4)).set_ 3 (.slice Q5 N d5)
      have G51 : Hid (RS ((((w4.setCell ⟨w1.heap.size, 0, none⟩ (.int .i64 a)).setCell ⟨w1.heap.size, 1, none⟩ (.int .i64 b)).setCell ⟨w1.heap.size, 2, none⟩ (.slice Q4 N d4)).setCell ⟨w1.heap.size, 3, none⟩ (.slice Q5 N d5)) 1 Q4 N d4 (ints (pixZ a b))) := RS.setCell (RS.setCell (RS.setCell (RS.setCell G41.out hge4 _) hge4 _) hge4 _) hge4 _
      have G52 : Hid (RS ((((w4.setCell ⟨w1.heap.size, 0, none⟩ (.int .i64 a)).setCell ⟨w1.heap.size, 1, none⟩ (.int .i64 b)).setCell ⟨w1.heap.size, 2, none⟩ (.slice Q4 N d4)).setCell ⟨w1.heap.size, 3, none⟩ (.slice Q5 N d5)) 1 Q5 N d5 (bools (donK a b s (k + 1)))) := RS.setCell (RS.setCell (RS.setCell (RS.setCell G42.out hge5 _) hge5 _) hge5 _) hge5 _
      have hw15 : w.heap.size ≤ w1.heap.size := HB1.out.size
      have HW5 : Hid (Below w.heap.size w ((((w4.setCell ⟨w1.heap.size, 0, none⟩ (.int .i64 a)).setCell ⟨w1.heap.size, 1, none⟩ (.int .i64 b)).setCell ⟨w1.heap.size, 2, none⟩ (.slice Q4 N d4)).setCell ⟨w1.heap.size, 3, none⟩ (.slice Q5 N d5))) := Below.setCell (Below.setCell (Below.setCell (Below.setCell HW4.out hw15 _) hw15 _) hw15 _) hw15 _
      clear r4 r5 hb4 hb4' k4 k5
      dsimp only
      refine hK8.out _ _ (fun _ => (by (try dsimp only); refine ⟨?_, ?_, ?_, ?_, ?_, ?_, ?_, ?_⟩ <;> (go_simp; done))) (fun hHeld8 => ?_)
      have hXX8 := hHeld8 (by decide)
      refine wpAnyN_take (i := 9) (v := ?_) rfl (by kernel_rfl) (by kernel_rfl) (by kernel_rfl) (by kernel_rfl) (fun _ _ _ h => h) (Or.inl ⟨by rfl, ?_⟩) (by assumption) ?_; rotate_left; focus (intro w hSw; (try dsimp only at hSw); go_simp; try with_reducible rfl)
      refine wpAnyN_take (i := 10) (v := ?_) rfl (by kernel_rfl) (by kernel_rfl) (by kernel_rfl) (by kernel_rfl) (fun _ _ _ h => h) (Or.inl ⟨by rfl, ?_⟩) (by assumption) ?_; rotate_left; focus (intro w hSw; (try dsimp only at hSw); go_simp; try with_reducible rfl)
      refine wpAnyN_two (i := 11) (j := 12) rfl rfl (by kernel_rfl) (fun K11 hK11 => ?_) (fun K12 hK12 => ?_)
      · go_simp
        refine hK11.out _ _ (fun _ => (by (try dsimp only); refine ⟨?_, ?_, ?_, ?_, ?_, ?_, ?_, ?_⟩ <;> (go_simp; done))) (fun hHeld11 => ?_)
        refine wpAnyN_one (i := 12) rfl (by kernel_rfl) (fun K12 hK12 => ?_)
        go_simp
        refine hK12.out _ _ (fun h => absurd rfl h) (fun _ => ?_)
        refine wpAnyN_late (i := 13) rfl (by kernel_rfl) (by kernel_rfl) (fun K13 hK13 => ?_)
        go_simp
        refine hK13.out _ _ ?_
        refine wpAnyN_done (by kernel_rfl) ?_ _
        go_wp2_with fail
        go_roundw
        case rel => exact ⟨k + 1, Q4, Q5, d4, d5, HAS.out, by go_num, by rw [HCN.out]; simp, HX5.out, G51.out, G52.out, HW5.out⟩
        case measure => simp [intOf]; omega
      · go_simp
        refine hK12.out _ _ (fun h => absurd rfl h) (fun _ => ?_)
        refine wpAnyN_late (i := 11) rfl (by kernel_rfl) (by kernel_rfl) (fun K11 hK11 => ?_)
        go_simp
        refine hK11.out _ _ ?_
        refine wpAnyN_late (i := 13) rfl (by kernel_rfl) (by kernel_rfl) (fun K13 hK13 => ?_)
        go_simp
        refine hK13.out _ _ ?_
        refine wpAnyN_done (by kernel_rfl) ?_ _
        go_wp2_with fail
        go_roundw
        case rel => exact ⟨k + 1, Q4, Q5, d4, d5, HAS.out, by go_num, by rw [HCN.out]; simp, HX5.out, G51.out, G52.out, HW5.out⟩
        case measure => simp [intOf]; omega
    · have hkK : k = K := by omega
      have h1 : (donK a b s k).count true = N := by rw [hkK, HBL.out]; exact HE.out.1.trans HN.out
      have HFu : Hid (completeF a b (pixZ a b) (donK a b s k) = true) := by show _ = _; rw [hkK, HBL.out]; exact HE.out.2.1
      have HMi : Hid (missF a b (pixZ a b) (donK a b s k) (bks a b s) = []) := by show _ = _; rw [hkK, HBL.out]; exact HE.out.2.2
      rw [h1]
      have yN : IntKind.i64.wrap ((a : Int) * (b : Int)) = (N : Int) := by rw [← Int.natCast_mul, HN.out]; exact IntWalk.i64_in _ (by omega)
      have i2 : ¬ (k : Int) < K := by omega
      have e0 := HBr.out.cell 0
      have e1 := HBr.out.cell 1
      have f0 := HF.out.cell 0
      have f1 := HF.out.cell 1
      have f2 := HF.out.cell 2
      have f3 := HF.out.cell 3
      simp only [List.getElem?_cons_zero, List.getElem?_cons_succ] at e0 e1 f0 f1 f2 f3
      have HLK : Hid ((bks a b s).length = K) := hl
      clear hl hlt' hkK h1 HK HE
      go_wp2_with (go_at_call 11; refine (I_fullK _ HN.out HFu.out G1.out G2.out).mono ?_; rintro ee w2 ⟨rfl, hb2⟩; have hz2 := hb2.size; have HB2w := Lib.hid hb2; obtain ⟨cc2, ff2⟩ := bcell hb2; clear hb2)
      refine (I_missK (k := k) (s := s) (a := a) (b := b) (l := bks a b s) _ HN.out HLK.out (by omega) HMi.out 0 rfl (RS.step HB2w.out G1.out) (RS.step HB2w.out G2.out) (RS.step HB2w.out HLr.out)).mono ?_
      rintro ee w3 ⟨Q3, j3, rfl, hb3⟩
      have HB3 : Hid (Below w.heap.size w w3) := Below.trans HBW.out ((Below.trans HB2w.out (hb3.mono hz2)).mono hzr)
      clear hb3 cc2 ff2
      go_wp2_with fail
      go_ret
      exact ⟨rfl, HB3.out⟩
end Go.Proofs.Ythpanpedoeghoaa
