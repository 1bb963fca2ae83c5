/- Insertion into the program's ordered list. -/
import Derived.Test.YtaeajeclbcodeaaFragI
import Derived.Test.YtaeajeclbcodeaaInsP
namespace Go.Proofs.Ytaeajeclbcodeaa
open Go.RowKit
set_option linter.unusedVariables false
set_option maxRecDepth 100000
/-- The list's box. -/
abbrev ordCells (P : Option Addr) (n c : Nat) : List Value := [.slice P n c, .func (.func 72) #[] #[]]
set_option maxHeartbeats 8000000 in
theorem I_insert {g c : Nat} {P : Option Addr} {l : List EFragment} {f : EFragment} (w : World) (hs : l.length ≤ 1048576) (hO : Own w g 82 (ordCells P l.length c)) (hG : Grow w (g + 1) 48 5 P l.length c (rFragment l)) :
    Calls Try.prog 47 #[.pointer (some ⟨g, 0, none⟩), vFrag f] w fun e w' => e = .returned (.tuple #[]) ∧ ∃ P' c', Own w' g 82 (ordCells P' (insF f l).length c') ∧ Grow w' (g + 1) 48 5 P' (insF f l).length c' (rFragment (insF f l)) ∧ Below g w w' := by
  have hgl := hO.lt
  have H0 := Lib.hid hO
  have HG := Lib.hid hG
  have hpl := posF_le f l
  have hrs := hG.rs
  have hlc := hrs.open_.1
  have hcm := hrs.open_.2.1
  unfold maxLen at hcm
  have HR := Lib.hid hrs
  clear hO hG hrs
  have HPOS : Hid (posF f l = posF f l) := rfl
  obtain ⟨f0, f1, f2, f3, f4⟩ := f
  have HB0 : Hid (Below (w.heap.size + 1) (w.alloc (.cells #[.int .i64 f0, .int .i64 f1, .int .i64 f2, .int .i64 f3, .int .i64 f4] 48)) (w.alloc (.cells #[.int .i64 f0, .int .i64 f1, .int .i64 f2, .int .i64 f3, .int .i64 f4] 48))) := Below.refl _ _
  go_enter Try.func47, Try.ntmps47
  go_wp2_with fail
  go_loopw [4] (fun i wr => ∃ k : Nat, k ≤ posF (f0, f1, f2, f3, f4) l ∧ i = .int .i64 k ∧ Below (w.heap.size + 1) (w.alloc (.cells #[.int .i64 f0, .int .i64 f1, .int .i64 f2, .int .i64 f3, .int .i64 f4] 48)) wr) (fun i _ => l.length - (intOf i).toNat)
  case atStart => exact ⟨0, Nat.zero_le _, rfl, HB0.out⟩
  case round =>
    obtain ⟨k, hk, rfl, hb⟩ := hrel
    have hz := hb.size
    (try simp at hz)
    obtain ⟨cb, fb⟩ := bcell hb
    have k0 : wr.cell? ⟨w.heap.size, 0, none⟩ = some (.int .i64 f0) := by rw [cb _ _ (by omega)]; simp
    have k1 : wr.cell? ⟨w.heap.size, 1, none⟩ = some (.int .i64 f1) := by rw [cb _ _ (by omega)]; simp
    have k2 : wr.cell? ⟨w.heap.size, 2, none⟩ = some (.int .i64 f2) := by rw [cb _ _ (by omega)]; simp
    have k3 : wr.cell? ⟨w.heap.size, 3, none⟩ = some (.int .i64 f3) := by rw [cb _ _ (by omega)]; simp
    have k4 : wr.cell? ⟨w.heap.size, 4, none⟩ = some (.int .i64 f4) := by rw [cb _ _ (by omega)]; simp
    have zr : w.heap.size < wr.heap.size := by omega
    have hbw : Below w.heap.size w wr := Below.trans (Below.alloc (Below.refl _ _) (Nat.le_refl _) _) (hb.mono (by omega))
    have HBW := Lib.hid hbw
    have HB := Lib.hid hb
    have ho := H0.out.below hbw hgl
    have g0 := ho.cell 0
    have g1 := ho.cell 1
    simp only [ordCells, List.getElem?_cons_zero, List.getElem?_cons_succ] at g0 g1
    have zg : g < wr.heap.size := by omega
    have HRr := Lib.hid (RS.step hbw HR.out)
    have i1 : (0 : Int) ≤ k := by omega
    have y0' : IntKind.i64.wrap ((k : Int) + 1) = (k : Int) + 1 := IntWalk.i64_in _ (by omega)
    clear hb cb fb hbw ho
    by_cases hlt : k < l.length
    · obtain ⟨b, o, rfl, hbh, hcell⟩ := HRr.out.open_.2.2 (by omega)
      obtain ⟨q0, q1, q2, q3, q4⟩ := rFragment_at (l := l) hlt
      have d0 : wr.cell? ⟨b, o + k * 5, none⟩ = some (.int .i64 l[k].1) := by rw [hcell _ (by omega), q0]
      have d1 : wr.cell? ⟨b, o + k * 5 + 1, none⟩ = some (.int .i64 l[k].2.1) := by rw [show o + k * 5 + 1 = o + (k * 5 + 1) by omega, hcell _ (by omega), q1]
      have d2 : wr.cell? ⟨b, o + k * 5 + 2, none⟩ = some (.int .i64 l[k].2.2.1) := by rw [show o + k * 5 + 2 = o + (k * 5 + 2) by omega, hcell _ (by omega), q2]
      have d3 : wr.cell? ⟨b, o + k * 5 + 3, none⟩ = some (.int .i64 l[k].2.2.2.1) := by rw [show o + k * 5 + 3 = o + (k * 5 + 3) by omega, hcell _ (by omega), q3]
      have d4 : wr.cell? ⟨b, o + k * 5 + 4, none⟩ = some (.int .i64 l[k].2.2.2.2) := by rw [show o + k * 5 + 4 = o + (k * 5 + 4) by omega, hcell _ (by omega), q4]
      have i2 : (k : Int) < l.length := by omega
      have HSTEP : Hid (fLess (f0, f1, f2, f3, f4) l[k] = false → k + 1 ≤ posF (f0, f1, f2, f3, f4) l) := fun h => posF_step hk hlt h
      have HSTOP : Hid (fLess (f0, f1, f2, f3, f4) l[k] = true → k = posF (f0, f1, f2, f3, f4) l) := fun h => posF_stop hk hlt h
      clear hcell q0 q1 q2 q3 q4 hk
      generalize l[k] = x at *
      go_wp2_with fail
      go_region_held3 (fun w' => w'.cell? ⟨g, 0, none⟩ = some (.slice (some ⟨b, o, none⟩) l.length c) ∧ w'.cell? ⟨g, 1, none⟩ = some (.func (.func 72) #[] #[]) ∧ w'.cell? ⟨w.heap.size, 0, none⟩ = some (.int .i64 f0) ∧ w'.cell? ⟨w.heap.size, 1, none⟩ = some (.int .i64 f1) ∧ w'.cell? ⟨w.heap.size, 2, none⟩ = some (.int .i64 f2) ∧ w'.cell? ⟨w.heap.size, 3, none⟩ = some (.int .i64 f3) ∧ w'.cell? ⟨w.heap.size, 4, none⟩ = some (.int .i64 f4) ∧ w'.cell? ⟨b, o + k * 5, none⟩ = some (.int .i64 x.1) ∧ w'.cell? ⟨b, o + k * 5 + 1, none⟩ = some (.int .i64 x.2.1) ∧ w'.cell? ⟨b, o + k * 5 + 2, none⟩ = some (.int .i64 x.2.2.1) ∧ w'.cell? ⟨b, o + k * 5 + 3, none⟩ = some (.int .i64 x.2.2.2.1) ∧ w'.cell? ⟨b, o + k * 5 + 4, none⟩ = some (.int .i64 x.2.2.2.2))
        (first | ((try dsimp only); refine ⟨?_, ?_, ?_, ?_, ?_, ?_, ?_, ?_, ?_, ?_, ?_, ?_⟩ <;> (go_simp; done)) | go_keep)
        ((go_at_call 72; (with_reducible refine (I_compareFragments (f0, f1, f2, f3, f4) x _).mono ?_); rintro e w5 ⟨z, rfl, hzz, hb5⟩; have hz5 := hb5.size; (try simp at hz5); have c5 := fun o => hb5.cell (p := ⟨w.heap.size, o, none⟩) (by first | omega | (simp <;> omega)); have c6 := fun o => hb5.cell (p := ⟨b, o, none⟩) (by first | omega | (simp <;> omega)); have c7 := fun o => hb5.cell (p := ⟨g, o, none⟩) (by first | omega | (simp <;> omega))))
      have hB5 : Below wr.heap.size wr w5 := (by repeat (first | (with_reducible exact Below.refl _ _) | (with_reducible exact hb5) | (with_reducible assumption) | ((with_reducible refine Below.alloc ?_ ?_ _); rotate_left; (first | omega | (simp <;> omega))) | ((with_reducible refine Below.setCell ?_ ?_ _); rotate_left; (first | omega | (simp <;> omega))) | (with_reducible refine below_drewN ?_ _) | (with_reducible refine Below.drew ?_) | ((with_reducible refine Below.step (by assumption) ?_ ?_); rotate_left; (first | omega | (simp <;> omega)))))
      have HB5 := Lib.hid hB5
      clear hb5 hB5 c5 c6 c7
      cases hf : fLess (f0, f1, f2, f3, f4) x
      case false =>
        have HK := Lib.hid (HSTEP.out hf)
        rw [hf] at hzz
        have hz0 : 0 ≤ z := by simpa using hzz
        go_wp2_with fail
        go_roundw
        case rel => exact ⟨k + 1, HK.out, by go_num, HB.out.trans (HB5.out.mono (by omega))⟩
        case measure => simp [intOf]; omega
      case true =>
        have HK := Lib.hid (HSTOP.out hf)
        rw [hf] at hzz
        have hz0 : ¬ 0 ≤ z := by simpa using hzz
        have bx := Box.step HB5.out (Box.mk5 zr k0 k1 k2 k3 k4)
        have hb := HBW.out.trans (HB5.out.mono (show w.heap.size ≤ wr.heap.size by omega))
        clear k0 k1 k2 k3 k4 g0 g1 d0 d1 d2 d3 d4
        have kl : k ≤ l.length := by have := HK.out; omega
        have hz5 := hb.size
        obtain ⟨zb, b0, b1, b2, b3, b4⟩ := bx.open5
        have ho5 := H0.out.below hb hgl
        have hg5 := Grow.step hb HG.out
        have g0 := ho5.cell 0
        have gf := ho5.frozen 0
        simp only [ordCells, List.getElem?_cons_zero] at g0
        have zg : g < w5.heap.size := by omega
        have HO5 := Lib.hid ho5
        have HG5 := Lib.hid hg5
        have HBX := Lib.hid bx
        have HBB := Lib.hid hb
        have hgw : ¬ g = w.heap.size := by omega
        clear bx hb ho5 hg5
        go_wp2_with fail
        refine wp_region_M (S := (fun w' => w'.cell? ⟨g, 0, none⟩ = some (.slice (some ⟨b, o, none⟩) l.length c) ∧ w'.frozen? ⟨g, 0, none⟩ = false ∧ w'.cell? ⟨w.heap.size, 0, none⟩ = some (.int .i64 f0) ∧ w'.cell? ⟨w.heap.size, 1, none⟩ = some (.int .i64 f1) ∧ w'.cell? ⟨w.heap.size, 2, none⟩ = some (.int .i64 f2) ∧ w'.cell? ⟨w.heap.size, 3, none⟩ = some (.int .i64 f3) ∧ w'.cell? ⟨w.heap.size, 4, none⟩ = some (.int .i64 f4))) 10 (by kernel_rfl) (by (try dsimp only); refine ⟨?_, ?_, ?_, ?_, ?_, ?_, ?_⟩ <;> (go_simp; done)) (fun hHeld => ?_)
        refine wpAnyM_take (i := 0) (v := ?_) rfl (by kernel_rfl) (by kernel_rfl) (by kernel_rfl) (by kernel_rfl) (fun _ _ _ h => h) (Or.inl ⟨by rfl, ?_⟩) (by assumption) ?_; rotate_left; focus (intro w hSw; (try dsimp only at hSw); go_simp; try with_reducible rfl)
        refine wpAnyM_take (i := 1) (v := ?_) rfl (by kernel_rfl) (by kernel_rfl) (by kernel_rfl) (by kernel_rfl) (fun _ _ _ h => h) (Or.inl ⟨by rfl, ?_⟩) (by assumption) ?_; rotate_left; focus (intro w hSw; (try dsimp only at hSw); go_simp; try with_reducible rfl)
        refine wpAnyM_take (i := 2) (v := ?_) rfl (by kernel_rfl) (by kernel_rfl) (by kernel_rfl) (by kernel_rfl) (fun _ _ _ h => h) (Or.inl ⟨by rfl, ?_⟩) (by assumption) ?_; rotate_left; focus (intro w hSw; (try dsimp only at hSw); go_simp; try with_reducible rfl)
        refine wpAnyM_take (i := 3) (v := ?_) rfl (by kernel_rfl) (by kernel_rfl) (by kernel_rfl) (by kernel_rfl) (fun _ _ _ h => h) (Or.inl ⟨by rfl, ?_⟩) (by assumption) ?_; rotate_left; focus (intro w hSw; (try dsimp only at hSw); go_simp; try with_reducible rfl)
        refine wpAnyM_take (i := 4) (v := ?_) rfl (by kernel_rfl) (by kernel_rfl) (by kernel_rfl) (by kernel_rfl) (fun _ _ _ h => h) (Or.inl ⟨by rfl, ?_⟩) (by assumption) ?_; rotate_left; focus (intro w hSw; (try dsimp only at hSw); go_simp; try with_reducible rfl)
        refine wpAnyM_take (i := 5) (v := ?_) rfl (by kernel_rfl) (by kernel_rfl) (by kernel_rfl) (by kernel_rfl) (fun _ _ _ h => h) (Or.inl ⟨by rfl, ?_⟩) (by assumption) ?_; rotate_left; focus (intro w hSw; (try dsimp only at hSw); go_simp; try with_reducible rfl)
        refine wpAnyM_one (i := 6) rfl (by kernel_rfl) (fun K6 hK6 => ?_)
        go_simp
        refine hK6.out _ _ (fun _ => by (try dsimp only); refine ⟨?_, ?_, ?_, ?_, ?_, ?_, ?_⟩ <;> (go_simp; done)) (fun hHeld6 => ?_)
        have hX6 := hHeld6 (by decide)
        refine wpAnyM_one (i := 7) rfl (by kernel_rfl) (fun K7 hK7 => ?_)
        (refine step_app (by rfl) _ _ 44 (by rfl) (g + 1) 48 (.agg #[.int .i64 0, .int .i64 0, .int .i64 0, .int .i64 0, .int .i64 0]) 5 40 Try.underlying44 T.infoFragment rfl (by decide) (xs := rFragment l) (by rfl) ?_ (ys := rFragment [(f0, f1, f2, f3, f4)]) (by rfl) ?_ (rFragment_one _) ?_ ?_ ?_ ?_; (exact (by repeat (first | (with_reducible exact HG5.out) | (with_reducible refine Grow.alloc ?_ _) | (with_reducible refine Grow.drewN ?_ _) | (with_reducible refine Grow.drew ?_) | ((with_reducible refine Grow.far ?_ ?_ _); rotate_left; (first | omega | (simp <;> omega))) | (with_reducible refine Grow.step (by assumption) ?_)))); (exact (Grow.rs (base := 0) (n := 1) (c := 1) (by repeat (first | (with_reducible refine Grow.drewN ?_ _) | (with_reducible refine Grow.drew ?_) | (refine Grow.lit_at (by simp) (by rfl) (Nat.zero_le _) (by unfold maxLen; omega)))))); (unfold maxLen; omega); (omega); (first | omega | (simp <;> omega)); rintro A' c' w2 gA)
        have hsa := gA.2.2.2.1
        (try simp at hsa)
        have hgo := gA.2.2.2.2
        (try simp at hgo)
        have ho2 : Own w2 g 82 (ordCells (some ⟨b, o, none⟩) l.length c) := Own.below (by repeat (first | (with_reducible exact HO5.out) | ((with_reducible refine Own.far ?_ ?_ _); rotate_left; (first | omega | (simp <;> omega))) | (with_reducible refine Own.alloc ?_ _) | (with_reducible refine Own.drewN ?_ _) | (with_reducible refine Own.drew ?_) | (with_reducible refine Own.step (by assumption) ?_))) gA.2.1 (Nat.lt_succ_self _)
        have hbx2 : Box w2 w.heap.size [.int .i64 f0, .int .i64 f1, .int .i64 f2, .int .i64 f3, .int .i64 f4] := by
          have hf := (Appended.far gA (b := w.heap.size) (by simp; omega) (fun e => by have := HG.out.lt _ e; omega)).1
          refine Box.mk5 (by omega) ?_ ?_ ?_ ?_ ?_ <;> (rw [hf]; go_simp; done)
        have HG2 := Lib.hid gA.1
        have hB2 : Below g w w2 := Below.trans (Below.trans (HBB.out.mono (by omega)) (by repeat (first | (with_reducible exact Below.refl _ _) | (with_reducible assumption) | ((with_reducible refine Below.alloc ?_ ?_ _); rotate_left; (first | omega | (simp <;> omega))) | ((with_reducible refine Below.setCell ?_ ?_ _); rotate_left; (first | omega | (simp <;> omega))) | (with_reducible refine below_drewN ?_ _) | (with_reducible refine Below.drew ?_) | ((with_reducible refine Below.step (by assumption) ?_ ?_); rotate_left; (first | omega | (simp <;> omega)))))) (gA.2.1.mono (by omega))
        have HB2 := Lib.hid hB2
        have hpne : ∀ x, x ∈ gOf A' → x ≠ w.heap.size := fun x hx e => by
          rcases gA.2.2.2.2 with h | h
          · rw [h] at hx; have := HG.out.lt x hx; omega
          · rw [h] at hx; simp at hx; omega
        have HPN := Lib.hid hpne
        have h20 := ho2.cell 0
        have h2f := ho2.frozen 0
        simp only [ordCells, List.getElem?_cons_zero] at h20
        obtain ⟨zb2, e0, e1, e2, e3, e4⟩ := hbx2.open5
        have HO2 := Lib.hid ho2
        have HX2 := Lib.hid hbx2
        clear gA hB2 hpne ho2 hbx2 b0 b1 b2 b3 b4
        refine hK7.out _ _ (fun _ => by (try dsimp only); refine ⟨?_, ?_, ?_, ?_, ?_, ?_, ?_⟩ <;> (go_simp; done)) (fun hHeld7 => ?_)
        have hX7 := hHeld7 (by decide)
        refine wpAnyM_one (i := 8) rfl (by kernel_rfl) (fun K8 hK8 => ?_)
        go_simp
        refine hK8.out _ _ (fun _ => hX7) (fun hHeld8 => ?_)
        have hX8 := hHeld8 (by decide)
        refine wpAnyM_take (i := 9) (v := ?_) rfl (by kernel_rfl) (by kernel_rfl) (by kernel_rfl) (by kernel_rfl) (fun _ _ _ h => h) (Or.inl ⟨by rfl, ?_⟩) (by assumption) ?_; rotate_left; focus (intro w hSw; (try dsimp only at hSw); go_simp; try with_reducible rfl)
        refine wpAnyM_one (i := 10) rfl (by kernel_rfl) (fun K10 hK10 => ?_)
        go_simp
        refine hK10.out _ _ (fun h => absurd rfl h) (fun hHeld10 => ?_)
        refine wpAnyM_done (by kernel_rfl) ?_ _
        have ho3 : Own (w2.setCell ⟨g, 0, none⟩ (.slice A' (l.length + 1) c')) g 82 (ordCells A' (l.length + 1) c') := Own.set_ HO2.out 0 _
        have hg3 : Grow (w2.setCell ⟨g, 0, none⟩ (.slice A' (l.length + 1) c')) (g + 1) 48 5 A' (l.length + 1) c' (rFragment l ++ rFragment [(f0, f1, f2, f3, f4)]) := Grow.far HG2.out (by simp) _
        have hB3 : Below g w (w2.setCell ⟨g, 0, none⟩ (.slice A' (l.length + 1) c')) := Below.setCell HB2.out (Nat.le_refl _) _
        have hbx3 : Box (w2.setCell ⟨g, 0, none⟩ (.slice A' (l.length + 1) c')) w.heap.size [.int .i64 f0, .int .i64 f1, .int .i64 f2, .int .i64 f3, .int .i64 f4] := by
          refine Box.mk5 (by simp; omega) ?_ ?_ ?_ ?_ ?_ <;> (go_simp; done)
        have hz3 : w2.heap.size ≤ (w2.setCell ⟨g, 0, none⟩ (.slice A' (l.length + 1) c')).heap.size := by simp
        generalize w2.setCell ⟨g, 0, none⟩ (.slice A' (l.length + 1) c') = w3 at *
        clear h20 h2f e0 e1 e2 e3 e4 hX7 hX6 hHeld
        obtain ⟨p, ds, rfl, hpg, hop, hnc, hcx, hdl⟩ := Grow.parts hg3 (by omega)
        have hpw : p ≠ w.heap.size := HPN.out p (by simp [gOf])
        unfold maxLen at hcx
        have hA5 : (rFragment (l.take k)).length = k * 5 := by rw [rFragment_len, List.length_take]; omega
        have hB5' : (rFragment (l.drop k)).length = (l.length - k) * 5 := by rw [rFragment_len, List.length_drop]
        have hsp : rFragment l ++ rFragment [(f0, f1, f2, f3, f4)] = rFragment (l.take k) ++ (rFragment (l.drop k) ++ rFragment [(f0, f1, f2, f3, f4)]) := by rw [← List.append_assoc, ← rFragment_app (l.take k) (l.drop k), List.take_append_drop]
        rw [hsp] at hop hdl
        have HSP := Lib.hid hsp
        have HA5 := Lib.hid hA5
        have HB5' := Lib.hid hB5'
        have HOP := Lib.hid hop
        have HO3 := Lib.hid ho3
        have HB3 := Lib.hid hB3
        have HX3 := Lib.hid hbx3
        have HDL := Lib.hid hdl
        have t0 := ho3.cell 0
        simp only [ordCells, List.getElem?_cons_zero] at t0
        have hop1 := hop.lt
        clear hg3 hop ho3 hB3 hbx3 hsp hA5 hB5' hdl
        have j1 : (0 : Int) ≤ (k : Int) + 1 := by omega
        have j2 : (k : Int) + 1 ≤ (l.length : Int) + 1 := by omega
        have j3 : (k : Int) ≤ (l.length : Int) + 1 := by omega
        have j4 : (k : Int) + 1 ≤ (c' : Int) := by omega
        have j5 : (k : Int) ≤ (c' : Int) := by omega
        have j6 : ((k : Int) + 1).toNat = k + 1 := by omega
        have j7 : ¬ c' - k = 0 := by omega
        have j8 : ¬ c' = k := by omega
        go_wp2_with fail
        have hck : ¬ c' = k + 1 := by omega
        go_still_tail 13, (by kernel_rfl)
        refine wpList_shift (by rfl) _ _ _ _ (by rfl) 48 Try.underlying44 5 (by kernel_rfl) _ _ _ _ _ _ (by rfl) (by rfl) p 48 (rFragment (l.take k)) (rFragment (l.drop k)) (rFragment [(f0, f1, f2, f3, f4)]) ds HOP.out.drew (rFragment_len _) (by have := HB5'.out; omega) (by omega) (fun hm => by (refine ⟨adr_eq ?_, adr_eq ?_⟩ <;> (have := HA5.out; omega))) (rFragment_one _) ?_
        intro w6 ho6 hO6
        have hz6 := hO6.size
        have hz6' : w3.heap.size ≤ w6.heap.size := hz6
        have hog6 : Own w6 g 82 (ordCells (some ⟨p, 0, none⟩) (l.length + 1) c') := hO6.own HO3.out.drew (HO3.out.drew).lt (by simp; omega)
        have hbx6 : Box w6 w.heap.size [.int .i64 f0, .int .i64 f1, .int .i64 f2, .int .i64 f3, .int .i64 f4] := Box.only hO6 (show Box w3.drew _ _ from HX3.out) (show w.heap.size < w3.drew.heap.size from HX3.out.lt) (by simp; omega)
        have hB6 : Below g w w6 := HB3.out.drew.trans (hO6.below (by have := HB3.out.size; show g ≤ w3.heap.size; omega) (fun x hx => by simp at hx; omega))
        obtain ⟨zb6, r0, r1, r2, r3, r4⟩ := hbx6.open5
        have t6 := hog6.cell 0
        simp only [ordCells, List.getElem?_cons_zero] at t6
        have hlen6 : (rFragment (l.take k) ++ ((rFragment (l.drop k) ++ rFragment [(f0, f1, f2, f3, f4)]).take 5 ++ rFragment (l.drop k)) ++ ds).length = c' * 5 := by
          have := HDL.out
          simp only [List.length_append, List.length_take, rFragment_len, List.length_cons, List.length_nil] at this ⊢
          omega
        have hk5 : k * 5 + 5 ≤ c' * 5 := by omega
        obtain ⟨x0, e0⟩ : ∃ v, w6.cell? ⟨p, k * 5, none⟩ = some v := ⟨_, by rw [ho6.cell, List.getElem?_eq_getElem (by omega)]⟩
        obtain ⟨x1, e1⟩ : ∃ v, w6.cell? ⟨p, k * 5 + 1, none⟩ = some v := ⟨_, by rw [ho6.cell, List.getElem?_eq_getElem (by omega)]⟩
        obtain ⟨x2, e2⟩ : ∃ v, w6.cell? ⟨p, k * 5 + 1 + 1, none⟩ = some v := ⟨_, by rw [ho6.cell, List.getElem?_eq_getElem (by omega)]⟩
        obtain ⟨x3, e3⟩ : ∃ v, w6.cell? ⟨p, k * 5 + 1 + 1 + 1, none⟩ = some v := ⟨_, by rw [ho6.cell, List.getElem?_eq_getElem (by omega)]⟩
        obtain ⟨x4, e4⟩ : ∃ v, w6.cell? ⟨p, k * 5 + 1 + 1 + 1 + 1, none⟩ = some v := ⟨_, by rw [ho6.cell, List.getElem?_eq_getElem (by omega)]⟩
        have z0 : w6.frozen? ⟨p, k * 5, none⟩ = false := ho6.frozen _
        have z1 : w6.frozen? ⟨p, k * 5 + 1, none⟩ = false := ho6.frozen _
        have z2 : w6.frozen? ⟨p, k * 5 + 1 + 1, none⟩ = false := ho6.frozen _
        have z3 : w6.frozen? ⟨p, k * 5 + 1 + 1 + 1, none⟩ = false := ho6.frozen _
        have z4 : w6.frozen? ⟨p, k * 5 + 1 + 1 + 1 + 1, none⟩ = false := ho6.frozen _
        have HO6 := Lib.hid ho6
        have HOG6 := Lib.hid hog6
        have HB6 := Lib.hid hB6
        have HL6 := Lib.hid hlen6
        have hgp : g ≠ p := by omega
        have k9 : (k : Int) < (l.length : Int) + 1 := by omega
        clear ho6 hog6 hB6 hO6 hbx6 hlen6 t0
        go_wp2_with fail
        go_still_tail 7, (by kernel_rfl)
        go_wp2
        go_end0
        have HIL := insF_len (f0, f1, f2, f3, f4) l
        have hX5 : ((rFragment (l.drop k) ++ rFragment [(f0, f1, f2, f3, f4)]).take 5).length = 5 := by rw [List.length_take, List.length_append, rFragment_len, rFragment_len]; simp only [List.length_cons, List.length_nil]; omega
        have q : Own w6 p 48 (rFragment (l.take k) ++ ((rFragment (l.drop k) ++ rFragment [(f0, f1, f2, f3, f4)]).take 5 ++ (rFragment (l.drop k) ++ ds))) := by
          have := HO6.out
          rwa [List.append_assoc, List.append_assoc] at this
        have q2 := Own.set_ (Own.set_ (Own.set_ (Own.set_ (Own.set_ q (k * 5) (.int .i64 f0)) (k * 5 + 1) (.int .i64 f1)) (k * 5 + 2) (.int .i64 f2)) (k * 5 + 3) (.int .i64 f3)) (k * 5 + 4) (.int .i64 f4)
        rw [set5 HA5.out hX5] at q2
        have hrow : rFragment (l.take k) ++ ([.int .i64 f0, .int .i64 f1, .int .i64 f2, .int .i64 f3, .int .i64 f4] ++ (rFragment (l.drop k) ++ ds)) = rFragment (insF (f0, f1, f2, f3, f4) l) ++ ds := by
          rw [insF, ← HK.out, rFragment_app]
          show _ = rFragment (l.take k) ++ rFragment ([(f0, f1, f2, f3, f4)] ++ l.drop k) ++ ds
          rw [rFragment_app, List.append_assoc, List.append_assoc]
          rfl
        rw [hrow] at q2
        have hcl : (rFragment (insF (f0, f1, f2, f3, f4) l) ++ ds).length = c' * 5 := by
          have := HDL.out
          simp only [List.length_append, rFragment_len, List.length_cons, List.length_nil, List.length_take, List.length_drop] at this ⊢
          omega
        refine ⟨rfl, some ⟨p, 0, none⟩, c', ?_, Grow.of_parts q2.drew (rFragment_len _) hcl hpg (by omega) (by unfold maxLen; omega), ?_⟩
        · rw [HIL]
          exact (by repeat (first | (with_reducible exact HOG6.out) | ((with_reducible refine Own.far ?_ ?_ _); rotate_left; (first | omega | (simp <;> omega))) | (with_reducible refine Own.alloc ?_ _) | (with_reducible refine Own.drewN ?_ _) | (with_reducible refine Own.drew ?_) | (with_reducible refine Own.step (by assumption) ?_)))
        · exact (by repeat (first | (with_reducible exact Below.refl _ _) | (with_reducible exact HB6.out) | (with_reducible assumption) | ((with_reducible refine Below.alloc ?_ ?_ _); rotate_left; (first | omega | (simp <;> omega))) | ((with_reducible refine Below.setCell ?_ ?_ _); rotate_left; (first | omega | (simp <;> omega))) | (with_reducible refine below_drewN ?_ _) | (with_reducible refine Below.drew ?_) | ((with_reducible refine Below.step (by assumption) ?_ ?_); rotate_left; (first | omega | (simp <;> omega)))))
    · have hke : k = posF (f0, f1, f2, f3, f4) l := by omega
      have i2 : ¬ (k : Int) < l.length := by omega
      have HKE := Lib.hid hke
      clear hke
      have HK := HKE
      go_wp2_with fail
      go_quiet (fail)
      have bx : Box (wr.drewN nq) w.heap.size [.int .i64 f0, .int .i64 f1, .int .i64 f2, .int .i64 f3, .int .i64 f4] := Box.mk5 zr k0 k1 k2 k3 k4
      have hb : Below w.heap.size w (wr.drewN nq) := (by repeat (first | (with_reducible exact Below.refl _ _) | (with_reducible exact HBW.out) | (with_reducible assumption) | ((with_reducible refine Below.alloc ?_ ?_ _); rotate_left; (first | omega | (simp <;> omega))) | ((with_reducible refine Below.setCell ?_ ?_ _); rotate_left; (first | omega | (simp <;> omega))) | (with_reducible refine below_drewN ?_ _) | (with_reducible refine Below.drew ?_) | ((with_reducible refine Below.step (by assumption) ?_ ?_); rotate_left; (first | omega | (simp <;> omega)))))
      generalize wr.drewN nq = w5 at *
      clear k0 k1 k2 k3 k4 g0 g1
      have kl : k ≤ l.length := by have := HK.out; omega
      have hz5 := hb.size
      obtain ⟨zb, b0, b1, b2, b3, b4⟩ := bx.open5
      have ho5 := H0.out.below hb hgl
      have hg5 := Grow.step hb HG.out
      have g0 := ho5.cell 0
      have gf := ho5.frozen 0
      simp only [ordCells, List.getElem?_cons_zero] at g0
      have zg : g < w5.heap.size := by omega
      have HO5 := Lib.hid ho5
      have HG5 := Lib.hid hg5
      have HBX := Lib.hid bx
      have HBB := Lib.hid hb
      have hgw : ¬ g = w.heap.size := by omega
      clear bx hb ho5 hg5
      go_wp2_with fail
      refine wp_region_M (S := (fun w' => w'.cell? ⟨g, 0, none⟩ = some (.slice P l.length c) ∧ w'.frozen? ⟨g, 0, none⟩ = false ∧ w'.cell? ⟨w.heap.size, 0, none⟩ = some (.int .i64 f0) ∧ w'.cell? ⟨w.heap.size, 1, none⟩ = some (.int .i64 f1) ∧ w'.cell? ⟨w.heap.size, 2, none⟩ = some (.int .i64 f2) ∧ w'.cell? ⟨w.heap.size, 3, none⟩ = some (.int .i64 f3) ∧ w'.cell? ⟨w.heap.size, 4, none⟩ = some (.int .i64 f4))) 10 (by kernel_rfl) (by (try dsimp only); refine ⟨?_, ?_, ?_, ?_, ?_, ?_, ?_⟩ <;> (go_simp; done)) (fun hHeld => ?_)
      refine wpAnyM_take (i := 0) (v := ?_) rfl (by kernel_rfl) (by kernel_rfl) (by kernel_rfl) (by kernel_rfl) (fun _ _ _ h => h) (Or.inl ⟨by rfl, ?_⟩) (by assumption) ?_; rotate_left; focus (intro w hSw; (try dsimp only at hSw); go_simp; try with_reducible rfl)
      refine wpAnyM_take (i := 1) (v := ?_) rfl (by kernel_rfl) (by kernel_rfl) (by kernel_rfl) (by kernel_rfl) (fun _ _ _ h => h) (Or.inl ⟨by rfl, ?_⟩) (by assumption) ?_; rotate_left; focus (intro w hSw; (try dsimp only at hSw); go_simp; try with_reducible rfl)
      refine wpAnyM_take (i := 2) (v := ?_) rfl (by kernel_rfl) (by kernel_rfl) (by kernel_rfl) (by kernel_rfl) (fun _ _ _ h => h) (Or.inl ⟨by rfl, ?_⟩) (by assumption) ?_; rotate_left; focus (intro w hSw; (try dsimp only at hSw); go_simp; try with_reducible rfl)
      refine wpAnyM_take (i := 3) (v := ?_) rfl (by kernel_rfl) (by kernel_rfl) (by kernel_rfl) (by kernel_rfl) (fun _ _ _ h => h) (Or.inl ⟨by rfl, ?_⟩) (by assumption) ?_; rotate_left; focus (intro w hSw; (try dsimp only at hSw); go_simp; try with_reducible rfl)
      refine wpAnyM_take (i := 4) (v := ?_) rfl (by kernel_rfl) (by kernel_rfl) (by kernel_rfl) (by kernel_rfl) (fun _ _ _ h => h) (Or.inl ⟨by rfl, ?_⟩) (by assumption) ?_; rotate_left; focus (intro w hSw; (try dsimp only at hSw); go_simp; try with_reducible rfl)
      refine wpAnyM_take (i := 5) (v := ?_) rfl (by kernel_rfl) (by kernel_rfl) (by kernel_rfl) (by kernel_rfl) (fun _ _ _ h => h) (Or.inl ⟨by rfl, ?_⟩) (by assumption) ?_; rotate_left; focus (intro w hSw; (try dsimp only at hSw); go_simp; try with_reducible rfl)
      refine wpAnyM_one (i := 6) rfl (by kernel_rfl) (fun K6 hK6 => ?_)
      go_simp
      refine hK6.out _ _ (fun _ => by (try dsimp only); refine ⟨?_, ?_, ?_, ?_, ?_, ?_, ?_⟩ <;> (go_simp; done)) (fun hHeld6 => ?_)
      have hX6 := hHeld6 (by decide)
      refine wpAnyM_one (i := 7) rfl (by kernel_rfl) (fun K7 hK7 => ?_)
      (refine step_app (by rfl) _ _ 44 (by rfl) (g + 1) 48 (.agg #[.int .i64 0, .int .i64 0, .int .i64 0, .int .i64 0, .int .i64 0]) 5 40 Try.underlying44 T.infoFragment rfl (by decide) (xs := rFragment l) (by rfl) ?_ (ys := rFragment [(f0, f1, f2, f3, f4)]) (by rfl) ?_ (rFragment_one _) ?_ ?_ ?_ ?_; (exact (by repeat (first | (with_reducible exact HG5.out) | (with_reducible refine Grow.alloc ?_ _) | (with_reducible refine Grow.drewN ?_ _) | (with_reducible refine Grow.drew ?_) | ((with_reducible refine Grow.far ?_ ?_ _); rotate_left; (first | omega | (simp <;> omega))) | (with_reducible refine Grow.step (by assumption) ?_)))); (exact (Grow.rs (base := 0) (n := 1) (c := 1) (by repeat (first | (with_reducible refine Grow.drewN ?_ _) | (with_reducible refine Grow.drew ?_) | (refine Grow.lit_at (by simp) (by rfl) (Nat.zero_le _) (by unfold maxLen; omega)))))); (unfold maxLen; omega); (omega); (first | omega | (simp <;> omega)); rintro A' c' w2 gA)
      have hsa := gA.2.2.2.1
      (try simp at hsa)
      have hgo := gA.2.2.2.2
      (try simp at hgo)
      have ho2 : Own w2 g 82 (ordCells P l.length c) := Own.below (by repeat (first | (with_reducible exact HO5.out) | ((with_reducible refine Own.far ?_ ?_ _); rotate_left; (first | omega | (simp <;> omega))) | (with_reducible refine Own.alloc ?_ _) | (with_reducible refine Own.drewN ?_ _) | (with_reducible refine Own.drew ?_) | (with_reducible refine Own.step (by assumption) ?_))) gA.2.1 (Nat.lt_succ_self _)
      have hbx2 : Box w2 w.heap.size [.int .i64 f0, .int .i64 f1, .int .i64 f2, .int .i64 f3, .int .i64 f4] := by
        have hf := (Appended.far gA (b := w.heap.size) (by simp; omega) (fun e => by have := HG.out.lt _ e; omega)).1
        refine Box.mk5 (by omega) ?_ ?_ ?_ ?_ ?_ <;> (rw [hf]; go_simp; done)
      have HG2 := Lib.hid gA.1
      have hB2 : Below g w w2 := Below.trans (Below.trans (HBB.out.mono (by omega)) (by repeat (first | (with_reducible exact Below.refl _ _) | (with_reducible assumption) | ((with_reducible refine Below.alloc ?_ ?_ _); rotate_left; (first | omega | (simp <;> omega))) | ((with_reducible refine Below.setCell ?_ ?_ _); rotate_left; (first | omega | (simp <;> omega))) | (with_reducible refine below_drewN ?_ _) | (with_reducible refine Below.drew ?_) | ((with_reducible refine Below.step (by assumption) ?_ ?_); rotate_left; (first | omega | (simp <;> omega)))))) (gA.2.1.mono (by omega))
      have HB2 := Lib.hid hB2
      have hpne : ∀ x, x ∈ gOf A' → x ≠ w.heap.size := fun x hx e => by
        rcases gA.2.2.2.2 with h | h
        · rw [h] at hx; have := HG.out.lt x hx; omega
        · rw [h] at hx; simp at hx; omega
      have HPN := Lib.hid hpne
      have h20 := ho2.cell 0
      have h2f := ho2.frozen 0
      simp only [ordCells, List.getElem?_cons_zero] at h20
      obtain ⟨zb2, e0, e1, e2, e3, e4⟩ := hbx2.open5
      have HO2 := Lib.hid ho2
      have HX2 := Lib.hid hbx2
      clear gA hB2 hpne ho2 hbx2 b0 b1 b2 b3 b4
      refine hK7.out _ _ (fun _ => by (try dsimp only); refine ⟨?_, ?_, ?_, ?_, ?_, ?_, ?_⟩ <;> (go_simp; done)) (fun hHeld7 => ?_)
      have hX7 := hHeld7 (by decide)
      refine wpAnyM_one (i := 8) rfl (by kernel_rfl) (fun K8 hK8 => ?_)
      go_simp
      refine hK8.out _ _ (fun _ => hX7) (fun hHeld8 => ?_)
      have hX8 := hHeld8 (by decide)
      refine wpAnyM_take (i := 9) (v := ?_) rfl (by kernel_rfl) (by kernel_rfl) (by kernel_rfl) (by kernel_rfl) (fun _ _ _ h => h) (Or.inl ⟨by rfl, ?_⟩) (by assumption) ?_; rotate_left; focus (intro w hSw; (try dsimp only at hSw); go_simp; try with_reducible rfl)
      refine wpAnyM_one (i := 10) rfl (by kernel_rfl) (fun K10 hK10 => ?_)
      go_simp
      refine hK10.out _ _ (fun h => absurd rfl h) (fun hHeld10 => ?_)
      refine wpAnyM_done (by kernel_rfl) ?_ _
      have ho3 : Own (w2.setCell ⟨g, 0, none⟩ (.slice A' (l.length + 1) c')) g 82 (ordCells A' (l.length + 1) c') := Own.set_ HO2.out 0 _
      have hg3 : Grow (w2.setCell ⟨g, 0, none⟩ (.slice A' (l.length + 1) c')) (g + 1) 48 5 A' (l.length + 1) c' (rFragment l ++ rFragment [(f0, f1, f2, f3, f4)]) := Grow.far HG2.out (by simp) _
      have hB3 : Below g w (w2.setCell ⟨g, 0, none⟩ (.slice A' (l.length + 1) c')) := Below.setCell HB2.out (Nat.le_refl _) _
      have hbx3 : Box (w2.setCell ⟨g, 0, none⟩ (.slice A' (l.length + 1) c')) w.heap.size [.int .i64 f0, .int .i64 f1, .int .i64 f2, .int .i64 f3, .int .i64 f4] := by
        refine Box.mk5 (by simp; omega) ?_ ?_ ?_ ?_ ?_ <;> (go_simp; done)
      have hz3 : w2.heap.size ≤ (w2.setCell ⟨g, 0, none⟩ (.slice A' (l.length + 1) c')).heap.size := by simp
      generalize w2.setCell ⟨g, 0, none⟩ (.slice A' (l.length + 1) c') = w3 at *
      clear h20 h2f e0 e1 e2 e3 e4 hX7 hX6 hHeld
      obtain ⟨p, ds, rfl, hpg, hop, hnc, hcx, hdl⟩ := Grow.parts hg3 (by omega)
      have hpw : p ≠ w.heap.size := HPN.out p (by simp [gOf])
      unfold maxLen at hcx
      have hA5 : (rFragment (l.take k)).length = k * 5 := by rw [rFragment_len, List.length_take]; omega
      have hB5' : (rFragment (l.drop k)).length = (l.length - k) * 5 := by rw [rFragment_len, List.length_drop]
      have hsp : rFragment l ++ rFragment [(f0, f1, f2, f3, f4)] = rFragment (l.take k) ++ (rFragment (l.drop k) ++ rFragment [(f0, f1, f2, f3, f4)]) := by rw [← List.append_assoc, ← rFragment_app (l.take k) (l.drop k), List.take_append_drop]
      rw [hsp] at hop hdl
      have HSP := Lib.hid hsp
      have HA5 := Lib.hid hA5
      have HB5' := Lib.hid hB5'
      have HOP := Lib.hid hop
      have HO3 := Lib.hid ho3
      have HB3 := Lib.hid hB3
      have HX3 := Lib.hid hbx3
      have HDL := Lib.hid hdl
      have t0 := ho3.cell 0
      simp only [ordCells, List.getElem?_cons_zero] at t0
      have hop1 := hop.lt
      clear hg3 hop ho3 hB3 hbx3 hsp hA5 hB5' hdl
      have j1 : (0 : Int) ≤ (k : Int) + 1 := by omega
      have j2 : (k : Int) + 1 ≤ (l.length : Int) + 1 := by omega
      have j3 : (k : Int) ≤ (l.length : Int) + 1 := by omega
      have j4 : (k : Int) + 1 ≤ (c' : Int) := by omega
      have j5 : (k : Int) ≤ (c' : Int) := by omega
      have j6 : ((k : Int) + 1).toNat = k + 1 := by omega
      have j7 : ¬ c' - k = 0 := by omega
      have j8 : ¬ c' = k := by omega
      go_wp2_with fail
      have hmn : l.length ≤ k := by omega
      by_cases hck : c' = k + 1
      all_goals
        go_still_tail 13, (by kernel_rfl)
        refine wpList_shift (by rfl) _ _ _ _ (by rfl) 48 Try.underlying44 5 (by kernel_rfl) _ _ _ _ _ _ (by rfl) (by rfl) p 48 (rFragment (l.take k)) (rFragment (l.drop k)) (rFragment [(f0, f1, f2, f3, f4)]) ds HOP.out.drew (rFragment_len _) (by have := HB5'.out; omega) (by omega) (fun hm => by exfalso; omega) (rFragment_one _) ?_
        intro w6 ho6 hO6
        have hz6 := hO6.size
        have hz6' : w3.heap.size ≤ w6.heap.size := hz6
        have hog6 : Own w6 g 82 (ordCells (some ⟨p, 0, none⟩) (l.length + 1) c') := hO6.own HO3.out.drew (HO3.out.drew).lt (by simp; omega)
        have hbx6 : Box w6 w.heap.size [.int .i64 f0, .int .i64 f1, .int .i64 f2, .int .i64 f3, .int .i64 f4] := Box.only hO6 (show Box w3.drew _ _ from HX3.out) (show w.heap.size < w3.drew.heap.size from HX3.out.lt) (by simp; omega)
        have hB6 : Below g w w6 := HB3.out.drew.trans (hO6.below (by have := HB3.out.size; show g ≤ w3.heap.size; omega) (fun x hx => by simp at hx; omega))
        obtain ⟨zb6, r0, r1, r2, r3, r4⟩ := hbx6.open5
        have t6 := hog6.cell 0
        simp only [ordCells, List.getElem?_cons_zero] at t6
        have hlen6 : (rFragment (l.take k) ++ ((rFragment (l.drop k) ++ rFragment [(f0, f1, f2, f3, f4)]).take 5 ++ rFragment (l.drop k)) ++ ds).length = c' * 5 := by
          have := HDL.out
          simp only [List.length_append, List.length_take, rFragment_len, List.length_cons, List.length_nil] at this ⊢
          omega
        have hk5 : k * 5 + 5 ≤ c' * 5 := by omega
        obtain ⟨x0, e0⟩ : ∃ v, w6.cell? ⟨p, k * 5, none⟩ = some v := ⟨_, by rw [ho6.cell, List.getElem?_eq_getElem (by omega)]⟩
        obtain ⟨x1, e1⟩ : ∃ v, w6.cell? ⟨p, k * 5 + 1, none⟩ = some v := ⟨_, by rw [ho6.cell, List.getElem?_eq_getElem (by omega)]⟩
        obtain ⟨x2, e2⟩ : ∃ v, w6.cell? ⟨p, k * 5 + 1 + 1, none⟩ = some v := ⟨_, by rw [ho6.cell, List.getElem?_eq_getElem (by omega)]⟩
        obtain ⟨x3, e3⟩ : ∃ v, w6.cell? ⟨p, k * 5 + 1 + 1 + 1, none⟩ = some v := ⟨_, by rw [ho6.cell, List.getElem?_eq_getElem (by omega)]⟩
        obtain ⟨x4, e4⟩ : ∃ v, w6.cell? ⟨p, k * 5 + 1 + 1 + 1 + 1, none⟩ = some v := ⟨_, by rw [ho6.cell, List.getElem?_eq_getElem (by omega)]⟩
        have z0 : w6.frozen? ⟨p, k * 5, none⟩ = false := ho6.frozen _
        have z1 : w6.frozen? ⟨p, k * 5 + 1, none⟩ = false := ho6.frozen _
        have z2 : w6.frozen? ⟨p, k * 5 + 1 + 1, none⟩ = false := ho6.frozen _
        have z3 : w6.frozen? ⟨p, k * 5 + 1 + 1 + 1, none⟩ = false := ho6.frozen _
        have z4 : w6.frozen? ⟨p, k * 5 + 1 + 1 + 1 + 1, none⟩ = false := ho6.frozen _
        have HO6 := Lib.hid ho6
        have HOG6 := Lib.hid hog6
        have HB6 := Lib.hid hB6
        have HL6 := Lib.hid hlen6
        have hgp : g ≠ p := by omega
        have k9 : (k : Int) < (l.length : Int) + 1 := by omega
        clear ho6 hog6 hB6 hO6 hbx6 hlen6 t0
        go_wp2_with fail
        go_still_tail 7, (by kernel_rfl)
        go_wp2
        go_end0
        have HIL := insF_len (f0, f1, f2, f3, f4) l
        have hX5 : ((rFragment (l.drop k) ++ rFragment [(f0, f1, f2, f3, f4)]).take 5).length = 5 := by rw [List.length_take, List.length_append, rFragment_len, rFragment_len]; simp only [List.length_cons, List.length_nil]; omega
        have q : Own w6 p 48 (rFragment (l.take k) ++ ((rFragment (l.drop k) ++ rFragment [(f0, f1, f2, f3, f4)]).take 5 ++ (rFragment (l.drop k) ++ ds))) := by
          have := HO6.out
          rwa [List.append_assoc, List.append_assoc] at this
        have q2 := Own.set_ (Own.set_ (Own.set_ (Own.set_ (Own.set_ q (k * 5) (.int .i64 f0)) (k * 5 + 1) (.int .i64 f1)) (k * 5 + 2) (.int .i64 f2)) (k * 5 + 3) (.int .i64 f3)) (k * 5 + 4) (.int .i64 f4)
        rw [set5 HA5.out hX5] at q2
        have hrow : rFragment (l.take k) ++ ([.int .i64 f0, .int .i64 f1, .int .i64 f2, .int .i64 f3, .int .i64 f4] ++ (rFragment (l.drop k) ++ ds)) = rFragment (insF (f0, f1, f2, f3, f4) l) ++ ds := by
          rw [insF, ← HK.out, rFragment_app]
          show _ = rFragment (l.take k) ++ rFragment ([(f0, f1, f2, f3, f4)] ++ l.drop k) ++ ds
          rw [rFragment_app, List.append_assoc, List.append_assoc]
          rfl
        rw [hrow] at q2
        have hcl : (rFragment (insF (f0, f1, f2, f3, f4) l) ++ ds).length = c' * 5 := by
          have := HDL.out
          simp only [List.length_append, rFragment_len, List.length_cons, List.length_nil, List.length_take, List.length_drop] at this ⊢
          omega
        refine ⟨rfl, some ⟨p, 0, none⟩, c', ?_, Grow.of_parts q2.drew (rFragment_len _) hcl hpg (by omega) (by unfold maxLen; omega), ?_⟩
        · rw [HIL]
          exact (by repeat (first | (with_reducible exact HOG6.out) | ((with_reducible refine Own.far ?_ ?_ _); rotate_left; (first | omega | (simp <;> omega))) | (with_reducible refine Own.alloc ?_ _) | (with_reducible refine Own.drewN ?_ _) | (with_reducible refine Own.drew ?_) | (with_reducible refine Own.step (by assumption) ?_)))
        · exact (by repeat (first | (with_reducible exact Below.refl _ _) | (with_reducible exact HB6.out) | (with_reducible assumption) | ((with_reducible refine Below.alloc ?_ ?_ _); rotate_left; (first | omega | (simp <;> omega))) | ((with_reducible refine Below.setCell ?_ ?_ _); rotate_left; (first | omega | (simp <;> omega))) | (with_reducible refine below_drewN ?_ _) | (with_reducible refine Below.drew ?_) | ((with_reducible refine Below.step (by assumption) ?_ ?_); rotate_left; (first | omega | (simp <;> omega)))))
end Go.Proofs.Ytaeajeclbcodeaa
