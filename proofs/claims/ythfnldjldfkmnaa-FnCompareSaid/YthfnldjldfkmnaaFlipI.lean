/- FlipImage of the program. -/
import Derived.Test.YthfnldjldfkmnaaFlip
import Derived.Test.YthfnldjldfkmnaaRev
import Derived.Test.YthfnldjldfkmnaaCrop
import Derived.Deep.RegionHeld3
import Derived.Deep.DeepCutAuto
namespace Go.Proofs.Ythfnldjldfkmnaa
open Go.RowKit
set_option linter.unusedVariables false
set_option maxRecDepth 20000 in
set_option maxHeartbeats 8000000 in
theorem I_FlipImage {W H : Int} {A : Option Addr} {c : Nat} {l : List Int} (w : World) (hs : l.length ≤ 1048576) (h : RS w 1 A l.length c (ints l)) :
    Calls Try.prog 21 #[vImage W H (.slice A l.length c)] w (MadeImage (fun s0 => vImage W H s0) l.length (ints (flipF W H l)) w) := by
  have H0 := Lib.hid h
  have hlen := h.len
  unfold maxLen at hlen
  clear h
  have hne : ¬ w.heap.size + 1 = w.heap.size := by omega
  have hne' : ¬ w.heap.size = w.heap.size + 1 := by omega
  go_enter Try.func21, Try.ntmps21
  go_upto_region 1 with fail
  go_cut [3] (fun s3 wx => ∃ (g3 : Nat) (B : Option Addr) (d : Nat), s3 = .pointer (some ⟨g3, 0, none⟩) ∧ w.heap.size + 1 < g3 ∧ Own wx w.heap.size 38 [.int .i64 W, .int .i64 H, .slice A l.length c] ∧ Own wx (w.heap.size + 1) 38 [.int .i64 0, .int .i64 0, .slice none 0 0] ∧ Own wx g3 38 [.int .i64 W, .int .i64 H, .slice B l.length d] ∧ OwnS wx 1 B l.length d 3 (ints l) ∧ (∀ x, x ∈ gOf B → w.heap.size + 2 ≤ x ∧ x ≠ g3) ∧ Below w.heap.size w wx)
  case first =>
    go_region_held3 (fun w' => w'.cell? ⟨w.heap.size, 0, none⟩ = some (.int .i64 W) ∧ w'.cell? ⟨w.heap.size, 1, none⟩ = some (.int .i64 H) ∧ w'.cell? ⟨w.heap.size, 2, none⟩ = some (.slice A l.length c))
      (first | ((try dsimp only); refine ⟨?_, ?_, ?_⟩ <;> (go_simp; done)) | go_keep)
      ((go_at_call 91; (with_reducible refine (G_CloneInt (l := l) _ hs (RS.step (by repeat (first | (with_reducible exact Below.refl _ _) | (with_reducible assumption) | ((with_reducible refine Below.alloc ?_ ?_ _); rotate_left; (first | omega | (simp <;> omega))) | ((with_reducible refine Below.setCell ?_ ?_ _); rotate_left; (first | omega | (simp <;> omega))) | (with_reducible refine below_drewN ?_ _) | (with_reducible refine Below.drew ?_) | ((with_reducible refine Below.step (by assumption) ?_ ?_); rotate_left; (first | omega | (simp <;> omega))))) H0.out)).mono ?_); rintro e x1 ⟨B, d, rfl, o1, ge1, hb1⟩; have hz1 := hb1.size; (try simp at hz1); have cc := (bcell hb1).1; have ff := (bcell hb1).2; have za : w.heap.size < x1.heap.size := (by omega); have zb : w.heap.size + 1 < x1.heap.size := (by omega)))
    all_goals
      have olt := OwnS.lt o1
      have hge' : ∀ x, x ∈ gOf B → w.heap.size + 2 ≤ x := fun x hx => by have := ge1 x hx; simp at this; omega
      go_wp2_with fail
      go_meet
      first
        | ((with_reducible refine ⟨w.heap.size + 1 + 1, B, d, rfl, ?_⟩); exact ⟨by omega, (by repeat (first | (with_reducible refine Own.drew ?_) | (with_reducible refine Own.drewN ?_ _) | ((with_reducible refine Own.far ?_ ?_ _); rotate_left; (first | omega | (simp <;> omega))) | (with_reducible refine Own.step (by assumption) ?_) | ((refine Own.at_lit ?_); (focus (simp; done))) | (with_reducible refine Own.alloc ?_ _))), (by repeat (first | (with_reducible refine Own.drew ?_) | (with_reducible refine Own.drewN ?_ _) | ((with_reducible refine Own.far ?_ ?_ _); rotate_left; (first | omega | (simp <;> omega))) | (with_reducible refine Own.step (by assumption) ?_) | ((refine Own.at_lit ?_); (focus (simp; done))) | (with_reducible refine Own.alloc ?_ _))), Own.set_ (Own.set_ (Own.set_ ((by repeat (first | (with_reducible refine Own.drew ?_) | (with_reducible refine Own.drewN ?_ _) | ((with_reducible refine Own.far ?_ ?_ _); rotate_left; (first | omega | (simp <;> omega))) | (with_reducible refine Own.step (by assumption) ?_) | ((refine Own.at_lit ?_); (focus (simp; done))) | (with_reducible refine Own.alloc ?_ _))) : Own x1 (w.heap.size + 1 + 1) 38 [.int .i64 0, .int .i64 0, .slice none 0 0]) 0 _) 1 _) 2 _, (by repeat (first | (with_reducible assumption) | (with_reducible refine OwnS.drew ?_) | (with_reducible refine OwnS.drewN ?_ _) | (with_reducible refine OwnS.alloc ?_ _) | ((with_reducible refine OwnS.far ?_ ?_ _); rotate_left; (intro x hx; have := ge1 x hx; simp at this; simp; omega)))), fun x hx => by have := ge1 x hx; simp at this; omega, (by repeat (first | (with_reducible exact Below.refl _ _) | (with_reducible assumption) | ((with_reducible refine Below.alloc ?_ ?_ _); rotate_left; (first | omega | (simp <;> omega))) | ((with_reducible refine Below.setCell ?_ ?_ _); rotate_left; (first | omega | (simp <;> omega))) | (with_reducible refine below_drewN ?_ _) | (with_reducible refine Below.drew ?_) | ((with_reducible refine Below.step (by assumption) ?_ ?_); rotate_left; (first | omega | (simp <;> omega)))))⟩)
        | ((with_reducible refine ⟨x1.heap.size, B, d, rfl, ?_⟩); exact ⟨by omega, (by repeat (first | (with_reducible refine Own.drew ?_) | (with_reducible refine Own.drewN ?_ _) | ((with_reducible refine Own.far ?_ ?_ _); rotate_left; (first | omega | (simp <;> omega))) | (with_reducible refine Own.step (by assumption) ?_) | ((refine Own.at_lit ?_); (focus (simp; done))) | (with_reducible refine Own.alloc ?_ _))), (by repeat (first | (with_reducible refine Own.drew ?_) | (with_reducible refine Own.drewN ?_ _) | ((with_reducible refine Own.far ?_ ?_ _); rotate_left; (first | omega | (simp <;> omega))) | (with_reducible refine Own.step (by assumption) ?_) | ((refine Own.at_lit ?_); (focus (simp; done))) | (with_reducible refine Own.alloc ?_ _))), (by repeat (first | (with_reducible refine Own.drew ?_) | (with_reducible refine Own.drewN ?_ _) | ((with_reducible refine Own.far ?_ ?_ _); rotate_left; (first | omega | (simp <;> omega))) | (with_reducible refine Own.step (by assumption) ?_) | ((refine Own.at_lit ?_); (focus (simp; done))) | (with_reducible refine Own.alloc ?_ _))), OwnS.alloc o1 _, fun x hx => ⟨hge' x hx, by have := olt x hx; omega⟩, (by repeat (first | (with_reducible exact Below.refl _ _) | (with_reducible assumption) | ((with_reducible refine Below.alloc ?_ ?_ _); rotate_left; (first | omega | (simp <;> omega))) | ((with_reducible refine Below.setCell ?_ ?_ _); rotate_left; (first | omega | (simp <;> omega))) | (with_reducible refine below_drewN ?_ _) | (with_reducible refine Below.drew ?_) | ((with_reducible refine Below.step (by assumption) ?_ ?_); rotate_left; (first | omega | (simp <;> omega)))))⟩)
  case rest =>
    obtain ⟨g3, B, d, rfl, hg3, b0, b1, b3, ob, hgB, hbw⟩ := hcut
    have b0c0 := b0.cell 0
    have b0c1 := b0.cell 1
    have b0c2 := b0.cell 2
    have b3c0 := b3.cell 0
    have b3c1 := b3.cell 1
    have b3c2 := b3.cell 2
    have b0l := b0.lt
    have b1l := b1.lt
    have b3l := b3.lt
    simp only [List.getElem?_cons_zero, List.getElem?_cons_succ] at b0c0 b0c1 b0c2 b3c0 b3c1 b3c2
    have HB0 := Lib.hid b0
    have HB1 := Lib.hid b1
    have HB3 := Lib.hid b3
    have HOB := Lib.hid ob
    have HBW := Lib.hid hbw
    have HRc := Lib.hid (RS.step hbw H0.out)
    clear b0 b1 b3 ob hbw
    go_wp2_with fail
    refine (I_IsValidImage _ HRc.out).mono ?_
    rintro e w2 ⟨rfl, hb2⟩
    have hz2 := hb2.size
    have hbw2 : Below w.heap.size w w2 := HBW.out.trans (hb2.mono (HBW.out.size))
    have b1' := Own.step hb2 HB1.out
    have b3' := Own.step hb2 HB3.out
    have ob' := OwnS.step hb2 HOB.out
    have H1c0 := b1'.cell 0
    have H1c1 := b1'.cell 1
    have H1c2 := b1'.cell 2
    have H1f := fun o => b1'.frozen o
    have H1l := b1'.lt
    have u0 := b3'.cell 0
    have u1 := b3'.cell 1
    have u2 := b3'.cell 2
    have u3 := b3'.lt
    simp only [List.getElem?_cons_zero, List.getElem?_cons_succ] at H1c0 H1c1 H1c2 u0 u1 u2
    have HBW2 := Lib.hid hbw2
    have HO2 := Lib.hid ob'
    have HC1 := Lib.hid b1'
    have HC3 := Lib.hid b3'
    clear hb2 hbw2 b1' b3' ob' b0c0 b0c1 b0c2 b3c0 b3c1 b3c2
    cases hv : validImg W H l
    case false =>
      have HV : Hid (flipF W H l = l) := by show _ = _; unfold flipF; rw [hv]; rfl
      go_wp2
      rw [HV.out]
      refine bodyPost_ret (v := vImage W H (.slice B l.length d)) (by simp [results, Try.results21, go_sem, *]) rfl ⟨B, d, rfl, ?_, fun x hx => by have := hgB x hx; omega, ?_⟩
      · exact (by repeat (first | (with_reducible exact HO2.out) | (with_reducible refine OwnS.drew ?_) | (with_reducible refine OwnS.drewN ?_ _) | ((with_reducible refine OwnS.far ?_ ?_ _); rotate_left; (intro x hx; have := hgB x hx; simp; omega))))
      · exact (by repeat (first | (with_reducible exact Below.refl _ _) | (with_reducible exact HBW2.out) | (with_reducible assumption) | ((with_reducible refine Below.alloc ?_ ?_ _); rotate_left; (first | omega | (simp <;> omega))) | ((with_reducible refine Below.setCell ?_ ?_ _); rotate_left; (first | omega | (simp <;> omega))) | (with_reducible refine below_drewN ?_ _) | (with_reducible refine Below.drew ?_) | ((with_reducible refine Below.step (by assumption) ?_ ?_); rotate_left; (first | omega | (simp <;> omega)))))
    case true =>
      obtain ⟨⟨hW1, hW2⟩, ⟨hH1, hH2⟩, hln0, h144, _⟩ := validImg_len hv
      obtain ⟨a, rfl⟩ := Int.eq_ofNat_of_zero_le (show 0 ≤ W by omega)
      obtain ⟨b, rfl⟩ := Int.eq_ofNat_of_zero_le (show 0 ≤ H by omega)
      have hln : l.length = a * b := by rw [← Int.natCast_mul] at hln0; omega
      have HV : Hid (flipF a b l = mixF l a (b * a)) := by show _ = _; unfold flipF; rw [hv, hln, Nat.mul_comm]; rfl
      have a1 : 1 ≤ a := by omega
      have a2 : a ≤ 12 := by omega
      have bb1 : 1 ≤ b := by omega
      have bb2 : b ≤ 12 := by omega
      have hpos : 0 < l.length := by rw [hln]; exact Nat.mul_pos a1 bb1
      obtain ⟨hol, hd1, hd2, ⟨_, h0⟩ | ⟨g, ds, rfl, hg2⟩⟩ := HO2.out
      · omega
      have hg := hgB g (by simp [gOf])
      obtain ⟨hg0, hg1⟩ := hg
      have hglt := hg2.lt
      have HG2 := Lib.hid hg2
      have HLN := Lib.hid hln
      have HD := Lib.hid (show l.length ≤ d ∧ d ≤ maxLen from ⟨hd1, hd2⟩)
      clear hg2 hln hln0 hgB hd2 HO2 HOB
      go_wp2_with fail
      go_loopw [4, 19] (fun _ i wr => ∃ k : Nat, k ≤ b ∧ i = .int .i64 k ∧ Own wr g 3 (ints (mixF l a (k * a)) ++ ds) ∧ Only w2.heap.size [g] w2 wr) (fun _ i _ => b - (intOf i).toNat)
      case atStart => exact ⟨0, Nat.zero_le _, rfl, by rw [Nat.zero_mul, mixF_zero]; exact HG2.out, Only.refl _ _ _⟩
      case round =>
        obtain ⟨k, hk, rfl, hog, hO⟩ := hrel
        have hOz := hO.size
        have p1 := hO.own HC1.out H1l (by simp; omega)
        have p3 := hO.own HC3.out u3 (by simp; omega)
        have e10 := p1.cell 0
        have e11 := p1.cell 1
        have e12 := p1.cell 2
        have e1f := fun o => p1.frozen o
        have e1l := p1.lt
        have e30 := p3.cell 0
        have e31 := p3.cell 1
        have e32 := p3.cell 2
        have e3l := p3.lt
        simp only [List.getElem?_cons_zero, List.getElem?_cons_succ] at e10 e11 e12 e30 e31 e32
        have hbw : Below w.heap.size w wr := Below.trans HBW2.out (hO.below (by have := HBW2.out.size; omega) (fun x hx => by simp at hx; omega))
        have HBr := Lib.hid hbw
        have HOG := Lib.hid hog
        have HOO := Lib.hid hO
        clear p1 p3 hbw hog hO
        by_cases hlt : k < b
        · have hre : k * a + a ≤ l.length := by rw [HLN.out]; exact row_end (y := 0) (q := b) (by omega) (by omega)
          obtain ⟨P, Q, hP, hm1, hm2⟩ := mixF_row a1 hre
          have hseg : ((l.drop (k * a)).take a).length = a := by rw [List.length_take, List.length_drop]; omega
          obtain ⟨r, hr⟩ : ∃ r, k * a = r := ⟨_, rfl⟩
          have HIR : Hid (∀ wx : World, Calls Try.prog 94 #[vImage a b (.slice (some ⟨g, 0, none⟩) l.length d), .int .i64 k] wx fun e w' => e = .returned (.slice (some ⟨g, r, none⟩) a (d - r)) ∧ Below wx.heap.size wx w') := by
            intro wx
            have := I_irow (b := g) (o := 0) (H := b) wx HD.out.1 HD.out.2 ⟨a1, a2⟩ (show k ≤ 12 by omega) (by rw [Nat.succ_mul]; exact hre)
            rw [Nat.zero_add, hr] at this
            exact this
          have HRV : Hid (∀ wx : World, Own wx g 3 (ints (mixF l a (k * a)) ++ ds) → Calls Try.prog 93 #[.slice (some ⟨g, r, none⟩) a (d - r)] wx fun e w' => e = .returned (.tuple #[]) ∧ Own w' g 3 (ints (mixF l a ((k + 1) * a)) ++ ds) ∧ Only wx.heap.size [g] wx w') := by
            intro wx h
            rw [hm1] at h
            have := G_Reverse (g := g) (c := d - r) (P := ints P) (Q := ints Q ++ ds) (l := (l.drop (k * a)).take a) (t := 3) wx (by omega) (by simpa [List.append_assoc] using h)
            rw [hseg, show (ints P).length = r by rw [List.length_map, hP, hr]] at this
            refine this.mono ?_
            rintro e w' ⟨h1, h2, h3⟩
            refine ⟨h1, ?_, h3⟩
            rw [hm2]
            simpa [List.append_assoc] using h2
          have i1 : (k : Int) < b := by omega
          clear hm1 hm2 hP hr hseg hre
          go_wp2_with fail
          refine (HIR.out _).mono ?_
          rintro e w3 ⟨rfl, hb3⟩
          have hz3 := hb3.size
          have HO3 : Hid (Own w3 g 3 (ints (mixF l a (k * a)) ++ ds)) := Lib.hid (Own.step hb3 HOG.out)
          have HB3 := Lib.hid hb3
          clear hb3
          go_wp2_with fail
          refine (HRV.out _ HO3.out).mono ?_
          rintro e w4 ⟨rfl, h4, hO4⟩
          have H4 := Lib.hid h4
          have HO4 : Hid (Only w2.heap.size [g] w2 w4) := Lib.hid (Only.trans (Only.trans HOO.out (Only.of_below HB3.out [g]) (by omega) (fun x hx => hx)) hO4 (by omega) (fun x hx => hx))
          clear h4 hO4
          go_wp2
          go_roundw
          case rel => exact ⟨k + 1, by omega, by go_num, H4.out, HO4.out⟩
          case measure => simp [intOf]; omega
        · obtain rfl : k = b := by omega
          have HOS : Hid (OwnS wr 1 (some ⟨g, 0, none⟩) l.length d 3 (ints (mixF l a (k * a)))) := Lib.hid ⟨by rw [List.length_map, mixF_len _ _ _ (by rw [HLN.out, Nat.mul_comm]; exact Nat.le_refl _), Nat.mul_one], HD.out.1, HD.out.2, .inr ⟨g, ds, rfl, HOG.out⟩⟩
          have hge' : ∀ x, x ∈ gOf (some (⟨g, 0, none⟩ : Addr)) → w.heap.size + 2 ≤ x := fun x hx => by simp [gOf] at hx; omega
          go_wp2
          rw [HV.out]
          refine bodyPost_ret (v := vImage a k (.slice (some ⟨g, 0, none⟩) l.length d)) (by simp [results, Try.results21, go_sem, *]) rfl ⟨some ⟨g, 0, none⟩, d, rfl, ?_, fun x hx => by have := hge' x hx; omega, ?_⟩
          · exact (by repeat (first | (with_reducible exact HOS.out) | ((with_reducible refine OwnS.far ?_ ?_ _); rotate_left; (intro x hx; have := hge' x hx; simp; omega)) | (with_reducible refine OwnS.drew ?_) | (with_reducible refine OwnS.drewN ?_ _)))
          · exact (by repeat (first | (with_reducible exact Below.refl _ _) | (with_reducible exact HBr.out) | (with_reducible assumption) | ((with_reducible refine Below.alloc ?_ ?_ _); rotate_left; (first | omega | (simp <;> omega))) | ((with_reducible refine Below.setCell ?_ ?_ _); rotate_left; (first | omega | (simp <;> omega))) | (with_reducible refine below_drewN ?_ _) | (with_reducible refine Below.drew ?_) | ((with_reducible refine Below.step (by assumption) ?_ ?_); rotate_left; (first | omega | (simp <;> omega)))))
end Go.Proofs.Ythfnldjldfkmnaa
