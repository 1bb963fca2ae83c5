/- FnMergeDeep: two deep lists can be merged in either order, and neither lets more light pass than before. -/
import Derived.Test.YtaeajeclbcodeaaMrgQ
import Derived.Test.YtaeajeclbcodeaaMrgI
import Derived.Test.YtaeajeclbcodeaaFragD
import Derived.Test.YtaeajeclbcodeaaBytes
namespace Go.Proofs.Ytaeajeclbcodeaa
open Go.RowKit
set_option linter.unusedVariables false
set_option maxRecDepth 100000
theorem deepF_le (l : List EFragment) : (deepF l).length ≤ l.length := by
  have h1 := (sortTo_rng (l := l) l.length (Nat.le_refl _)).1
  have h2 := outS_len (sortTo l l.length) (sortTo l l.length).length
  unfold deepF
  simp only [List.length_take]
  omega
set_option maxHeartbeats 4000000 in
theorem S_makeFragment {c : Nat} {A : Option Addr} {l : List Int} (w : World) (hl : l.length ≤ 1048576) (h : RS w 1 A l.length c (u8s l)) :
    Calls Try.prog 20 #[.slice A l.length c] w fun e w' => ∃ f : EFragment, e = .returned (vFrag f) ∧ Below w.heap.size w w' := by
  have HR := Lib.hid h
  clear h
  have HK : Hid (Own (w.alloc (.cells #[.int .i64 0, .int .i64 0, .int .i64 0, .int .i64 0, .int .i64 0] 48)) w.heap.size 48 [.int .i64 0, .int .i64 0, .int .i64 0, .int .i64 0, .int .i64 0]) := Own.new _ _ _
  have HN : Hid (∀ wx, RS wx 1 A l.length c (u8s l) → Calls Try.prog 50 #[.slice A l.length c, .int .i64 11] wx (NewCur wx A c l)) := fun wx hx => S_newCurN (n := 11) wx hl (by omega) hx
  go_enter Try.func20, Try.ntmps20
  go_wp2_with fail
  refine (HN.out _ (RS.step (by repeat (first | (with_reducible exact Below.refl _ _) | (with_reducible assumption) | ((with_reducible refine Below.alloc ?_ ?_ _); rotate_left; (first | omega | (simp <;> omega))) | ((with_reducible refine Below.setCell ?_ ?_ _); rotate_left; (first | omega | (simp <;> omega))) | (with_reducible refine below_drewN ?_ _) | (with_reducible refine Below.drew ?_) | ((with_reducible refine Below.step (by assumption) ?_ ?_); rotate_left; (first | omega | (simp <;> omega))))) HR.out)).mono ?_
  rintro e w1 ⟨g, rfl, hg, hc, hb⟩
  have hz1 := hb.size
  (try simp at hz1 hg)
  have HC := Lib.hid hc
  have HK1 := Lib.hid (Own.step hb HK.out)
  have HB1 : Hid (Below w.heap.size w w1) := Lib.hid (by repeat (first | (with_reducible exact Below.refl _ _) | (with_reducible assumption) | ((with_reducible refine Below.alloc ?_ ?_ _); rotate_left; (first | omega | (simp <;> omega))) | ((with_reducible refine Below.setCell ?_ ?_ _); rotate_left; (first | omega | (simp <;> omega))) | (with_reducible refine below_drewN ?_ _) | (with_reducible refine Below.drew ?_) | ((with_reducible refine Below.step (by assumption) ?_ ?_); rotate_left; (first | omega | (simp <;> omega)))))
  clear hc hb
  go_wp2_with fail
  refine (S_drawFragment _ HC.out).mono ?_
  rintro e w2 ⟨f, rfl, hf, hc, hO⟩
  have hk := hO.own HK1.out (by omega) (by simp; omega)
  have r0 := hk.cell 0
  have r1 := hk.cell 1
  have r2 := hk.cell 2
  have r3 := hk.cell 3
  have r4 := hk.cell 4
  have rf := hk.frozen
  simp only [List.getElem?_cons_zero, List.getElem?_cons_succ] at r0 r1 r2 r3 r4
  have HB2 := Lib.hid (Below.trans HB1.out (hO.below (by omega) (fun x hx => by simp at hx; omega)))
  have hz2 := HB2.out.size
  have hz3 := hO.size
  clear hc hO hk
  unfold vFrag
  go_wp2
  refine bodyPost_ret (v := vFrag f) (by simp [results, Try.results20, vFrag, go_sem, *]) rfl ⟨f, rfl, (by repeat (first | (with_reducible exact Below.refl _ _) | (with_reducible exact HB2.out) | (with_reducible assumption) | ((with_reducible refine Below.alloc ?_ ?_ _); rotate_left; (first | omega | (simp <;> omega))) | ((with_reducible refine Below.setCell ?_ ?_ _); rotate_left; (first | omega | (simp <;> omega))) | (with_reducible refine below_drewN ?_ _) | (with_reducible refine Below.drew ?_) | ((with_reducible refine Below.step (by assumption) ?_ ?_); rotate_left; (first | omega | (simp <;> omega)))))⟩
set_option maxHeartbeats 8000000 in
theorem L_FnMergeDeep : BytesLaw 5 := by
  intro A c l w h
  have HR := Lib.hid h
  have hlm := h.len
  unfold maxLen at hlm
  clear h
  rcases Nat.lt_or_ge 1048576 l.length with hbig | hsm
  · have hb' : (1048576 : Int) < (l.length : Int) := by omega
    go_enter Try.func5, Try.ntmps5
    go_wp2
    go_ret
    exact ⟨rfl, (by repeat (first | (with_reducible exact Below.refl _ _) | (with_reducible assumption) | ((with_reducible refine Below.alloc ?_ ?_ _); rotate_left; (first | omega | (simp <;> omega))) | ((with_reducible refine Below.setCell ?_ ?_ _); rotate_left; (first | omega | (simp <;> omega))) | (with_reducible refine below_drewN ?_ _) | (with_reducible refine Below.drew ?_) | ((with_reducible refine Below.step (by assumption) ?_ ?_); rotate_left; (first | omega | (simp <;> omega)))))⟩
  have hb' : ¬ (1048576 : Int) < (l.length : Int) := by omega
  go_enter Try.func5, Try.ntmps5
  go_wp2_with fail
  refine (S_makeFragments _ hsm HR.out).mono ?_
  rintro e w1 ⟨⟨fl, b, d, rfl, h5, _, _, hbw, how⟩, hB1⟩
  have hz1 := hB1.size
  have HOW := Lib.hid how
  have HB1 := Lib.hid hB1
  clear how hB1
  go_wp2_with fail
  refine (I_DeepOf _ (by omega) HOW.out.rs).mono ?_
  rintro e w2 ⟨P, pc, rfl, po, _, hb2⟩
  have hdl := deepF_le fl
  have HB2 := Lib.hid (Below.step hb2 HB1.out hz1)
  have HP2 := Lib.hid po.rs
  have HDV := Lib.hid (deepF_valid fl)
  clear po hb2
  generalize deepF fl = a at *
  go_wp2_with fail
  refine (S_makeFragment _ hsm (RS.step HB2.out HR.out)).mono ?_
  rintro e w3 ⟨f, rfl, hb3⟩
  have hz3 := hb3.size
  have HB3 := Lib.hid (Below.step hb3 HB2.out HB2.out.size)
  have HP3 := Lib.hid (RS.step hb3 HP2.out)
  clear hb3
  have HLT : Hid (∀ wx, RS wx 5 (some ⟨w3.heap.size, 0, none⟩) 1 1 (rFragment [f]) → Calls Try.prog 19 #[.slice (some ⟨w3.heap.size, 0, none⟩) 1 1] wx (MadeRow 61 2 (deepF [f]).length (rDeepStep (deepF [f])) wx)) := Lib.hid (fun wx hx => I_DeepOf (l := [f]) wx (by simp) hx)
  unfold vFrag
  go_wp2_with fail
  refine (HLT.out _ (Grow.rs (base := 0) (n := 1) (c := 1) (by repeat (first | (with_reducible refine Grow.drewN ?_ _) | (with_reducible refine Grow.drew ?_) | (refine Grow.lit_at (by simp) (by rfl) (Nat.zero_le _) (by unfold maxLen; omega)))))).mono ?_
  rintro e w4 ⟨Q, qc, rfl, qo, _, hb4⟩
  have hdl2 : (deepF [f]).length ≤ 1 := deepF_le [f]
  have HB4 : Hid (Below w.heap.size w w4) := Lib.hid (Below.step hb4 (HB3.out.alloc HB3.out.size _) (by have := HB3.out.size; simp; omega))
  have HP4 := Lib.hid (RS.step hb4 (RS.alloc HP3.out _))
  have HQ4 := Lib.hid qo.rs
  have HDV2 := Lib.hid (deepF_valid [f])
  clear qo hb4 HLT HP3 HP2 HOW
  generalize deepF [f] = b' at *
  go_wp2_with fail
  refine (I_MergeDeep _ HP4.out HQ4.out).mono ?_
  rintro e w5 ⟨M, mc, rfl, mo, _, hb5⟩
  have HB5 := Lib.hid (Below.step hb5 HB4.out HB4.out.size)
  have HP5 := Lib.hid (RS.step hb5 HP4.out)
  have HQ5 := Lib.hid (RS.step hb5 HQ4.out)
  have HM5 := Lib.hid mo.rs
  clear mo hb5
  go_wp2_with fail
  refine (I_MergeDeep _ HQ5.out HP5.out).mono ?_
  rintro e w6 ⟨N, nc, rfl, no, _, hb6⟩
  rw [mergeF_comm b' a] at no ⊢
  have HB6 := Lib.hid (Below.step hb6 HB5.out HB5.out.size)
  have HP6 := Lib.hid (RS.step hb6 HP5.out)
  have HQ6 := Lib.hid (RS.step hb6 HQ5.out)
  have HM6 := Lib.hid (RS.step hb6 HM5.out)
  have HN6 := Lib.hid no.rs
  clear no hb6
  have HTA : Hid (∀ z, transF (mergeF a b') z ≤ transF a z) := Lib.hid (fun z => mergeF_trans HDV.out HDV2.out (by omega) z)
  have HTB : Hid (∀ z, transF (mergeF a b') z ≤ transF b' z) := Lib.hid (fun z => by rw [mergeF_comm]; exact mergeF_trans HDV2.out HDV.out (by omega) z)
  have HMV := Lib.hid (mergeF_valid a b')
  have hml := mergeI_len a b' (mergeD (dep a) (dep b'))
  rw [mergeI_take] at hml
  have hmm : (mergeF a b').length ≤ 64 := by unfold mergeF; rw [HDV.out, HDV2.out, Bool.and_self, if_pos rfl]; exact hml
  clear hml
  generalize mergeF a b' = m at *
  go_wp2_with fail
  go_loopw [8, 9] (fun z _ wr => ∃ k : Nat, z = .int .i64 k ∧ 40 ≤ k ∧ k ≤ 70 ∧ Below w6.heap.size w6 wr) (fun z _ _ => 70 - (RowKit.intOf z).toNat)
  case atStart => exact ⟨40, rfl, Nat.le_refl _, by omega, Below.refl _ _⟩
  case round =>
    obtain ⟨k, rfl, k1, k2, hb⟩ := hrel
    have hz := hb.size
    have HB := Lib.hid hb
    clear hb
    by_cases hlt : k < 70
    · have t1 := HTA.out (k : Int)
      have t2 := HTB.out (k : Int)
      have i1 : (k : Int) < 70 := by omega
      have y0' : IntKind.i64.wrap ((k : Int) + 1) = (k : Int) + 1 := IntWalk.i64_in _ (by omega)
      have n1 : ¬ transF a k < transF m k := by omega
      have n2 : ¬ transF b' k < transF m k := by omega
      clear t1 t2
      go_wp2_with fail
      refine (I_Transmittance _ (RS.step HB.out HM6.out)).mono ?_
      rintro e v1 ⟨rfl, hb1⟩
      have B1 := Lib.hid (Below.step hb1 HB.out hz)
      clear hb1
      go_wp2_with fail
      refine (I_Transmittance _ (RS.step B1.out HN6.out)).mono ?_
      rintro e v2 ⟨rfl, hb2⟩
      have B2 := Lib.hid (Below.step hb2 B1.out B1.out.size)
      clear hb2
      go_wp2_with fail
      refine (I_Transmittance _ (RS.step B2.out HP6.out)).mono ?_
      rintro e v3 ⟨rfl, hb3⟩
      have B3 := Lib.hid (Below.step hb3 B2.out B2.out.size)
      clear hb3
      go_wp2_with fail
      refine (I_Transmittance _ (RS.step B3.out HQ6.out)).mono ?_
      rintro e v4 ⟨rfl, hb4⟩
      have B4 := Lib.hid (Below.step hb4 B3.out B3.out.size)
      clear hb4
      go_wp2_with fail
      go_roundw
      case rel => exact ⟨k + 1, by go_num, by omega, by omega, B4.out⟩
      case measure => simp [RowKit.intOf]; omega
    · obtain rfl : k = 70 := by omega
      have HBr := Lib.hid (Below.step HB.out HB6.out HB6.out.size)
      have HNIL : Hid (mergeF a [] = a) := Lib.hid (mergeF_nil HDV.out)
      go_wp2_with fail
      refine (I_IsValidDeep _ (RS.step HB.out HM6.out)).mono ?_
      rintro e v1 ⟨rfl, hb1⟩
      have B1 := Lib.hid (Below.step hb1 HB.out hz)
      clear hb1
      rw [HMV.out]
      go_wp2_with fail
      refine (I_MergeDeep (B := none) (d := 0) (b := []) _ (RS.step B1.out HP6.out) (Grow.rs (base := 0) (Grow.nil _ _ 61 _))).mono ?_
      rintro e v2 ⟨X, xc, rfl, _, _, hb2⟩
      rw [HNIL.out]
      have B2 := Lib.hid (Below.step hb2 B1.out B1.out.size)
      have B3 := Lib.hid (Below.step B2.out HB6.out HB6.out.size)
      clear hb2
      go_wp2_with fail
      go_ret
      exact ⟨by first | rfl | simp, (by repeat (first | (with_reducible exact Below.refl _ _) | (with_reducible exact B3.out) | (with_reducible assumption) | ((with_reducible refine Below.alloc ?_ ?_ _); rotate_left; (first | omega | (simp <;> omega))) | ((with_reducible refine Below.setCell ?_ ?_ _); rotate_left; (first | omega | (simp <;> omega))) | (with_reducible refine below_drewN ?_ _) | (with_reducible refine Below.drew ?_) | ((with_reducible refine Below.step (by assumption) ?_ ?_); rotate_left; (first | omega | (simp <;> omega)))))⟩
theorem FnMergeDeep_walk : LawWalk 5 [43] := bytes_walk L_FnMergeDeep
end Go.Proofs.Ytaeajeclbcodeaa
