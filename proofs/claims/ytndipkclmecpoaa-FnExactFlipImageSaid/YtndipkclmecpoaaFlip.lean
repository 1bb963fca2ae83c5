/- FlipImage of the reference and of the program. -/
import Derived.Test.YtndipkclmecpoaaCopies
import Derived.Test.YtndipkclmecpoaaMade
import Derived.Test.YtndipkclmecpoaaImageV
import Derived.Test.YtndipkclmecpoaaDigest
import Derived.Deep.RegionHeld3
import Derived.StillTailTactics
namespace Go.Proofs.Ytndipkclmecpoaa
open Go.RowKit
set_option linter.unusedVariables false
set_option maxHeartbeats 4000000 in
theorem S_l30Copy {W H : Int} {A : Option Addr} {c : Nat} {l : List Int} (w : World) (hs : l.length ≤ 1048576) (h : RS w 1 A l.length c (ints l)) :
    Calls Try.prog 101 #[vImage W H (.slice A l.length c)] w (MadeImage (fun s0 => vImage W H s0) l.length (ints l) w) := by
  have H0 := Lib.hid h
  clear h
  have hne : ¬ w.heap.size + 1 = w.heap.size := by omega
  have hne' : ¬ w.heap.size = w.heap.size + 1 := by omega
  go_enter Try.func101, Try.ntmps101
  go_wp2_with fail
  go_region_held3 (fun w' => w'.cell? ⟨w.heap.size, 0, none⟩ = some (.int .i64 W) ∧ w'.cell? ⟨w.heap.size, 1, none⟩ = some (.int .i64 H) ∧ w'.cell? ⟨w.heap.size, 2, none⟩ = some (.slice A l.length c))
    (first | ((try dsimp only); refine ⟨?_, ?_, ?_⟩ <;> (go_simp; done)) | go_keep)
    ((refine step_app (by rfl) _ _ 22 (by rfl) (w.heap.size + 2) 3 (.int .i64 0) 1 8 Try.underlying22 T.infoInt rfl (by decide) (xs := []) (by rfl) ?_ (ys := ints l) (by rfl) ?_ (ints_one _) ?_ ?_ ?_ ?_; (exact (by repeat (first | (with_reducible assumption) | (with_reducible refine Grow.drewN ?_ _) | (with_reducible refine Grow.drew ?_) | ((with_reducible refine Grow.app (by assumption) ?_ ?_); rotate_left; (intro x hx hy; simp [gOf] at hx hy; omega)) | ((refine Grow.lit_at ?_ (by rfl) ?_ (Nat.zero_le _)); (focus (simp; done)); (first | omega | (simp <;> omega))) | (with_reducible refine Grow.alloc ?_ _)))); (exact (RS.step (by repeat (first | (with_reducible exact Below.refl _ _) | (with_reducible assumption) | ((with_reducible refine Below.alloc ?_ ?_ _); rotate_left; (first | omega | (simp <;> omega))) | ((with_reducible refine Below.setCell ?_ ?_ _); rotate_left; (first | omega | (simp <;> omega))) | (with_reducible refine below_drewN ?_ _) | (with_reducible refine Below.drew ?_) | ((with_reducible refine Below.step (by assumption) ?_ ?_); rotate_left; (first | omega | (simp <;> omega))))) H0.out)); (unfold maxLen; omega); (omega); (first | omega | (simp <;> omega)); rintro P1 k1 x1 gA1; have hw1 : Below w.heap.size w x1 := Below.trans (by repeat (first | (with_reducible exact Below.refl _ _) | (with_reducible assumption) | ((with_reducible refine Below.alloc ?_ ?_ _); rotate_left; (first | omega | (simp <;> omega))) | ((with_reducible refine Below.setCell ?_ ?_ _); rotate_left; (first | omega | (simp <;> omega))) | (with_reducible refine below_drewN ?_ _) | (with_reducible refine Below.drew ?_) | ((with_reducible refine Below.step (by assumption) ?_ ?_); rotate_left; (first | omega | (simp <;> omega))))) (gA1.2.1.mono (by omega)); have hs1 := gA1.2.2.2.1; (try simp at hs1); have za : w.heap.size < x1.heap.size := (by omega); have zb : w.heap.size + 1 < x1.heap.size := (by omega); have zc : ¬ w.heap.size = x1.heap.size := (by omega); have zd : ¬ w.heap.size + 1 = x1.heap.size := (by omega); have cc := (bcell gA1.2.1).1; have ff := (bcell gA1.2.1).2))
  all_goals
    have g1 := gA1.1
    simp only [List.nil_append, Nat.zero_add] at g1
    go_wp2
    refine bodyPost_ret (v := vImage W H (.slice P1 l.length k1)) (by simp [results, Try.results101, go_sem, *]) rfl ⟨P1, k1, rfl, Grow.ownS (base := w.heap.size + 2) (by repeat (first | (with_reducible exact g1) | (with_reducible refine Grow.alloc ?_ _) | (with_reducible refine Grow.drewN ?_ _) | (with_reducible refine Grow.drew ?_) | ((with_reducible refine Grow.far ?_ ?_ _); rotate_left; (first | omega | (simp <;> omega))) | (with_reducible refine Grow.step (by assumption) ?_))), (fun x hx => by have := g1.ge x hx; omega), (by repeat (first | (with_reducible exact Below.refl _ _) | (with_reducible assumption) | ((with_reducible refine Below.alloc ?_ ?_ _); rotate_left; (first | omega | (simp <;> omega))) | ((with_reducible refine Below.setCell ?_ ?_ _); rotate_left; (first | omega | (simp <;> omega))) | (with_reducible refine below_drewN ?_ _) | (with_reducible refine Below.drew ?_) | ((with_reducible refine Below.step (by assumption) ?_ ?_); rotate_left; (first | omega | (simp <;> omega)))))⟩
/-- The pixel that comes to place k of the flipped image, and the flipped image. -/
def flipAt (l : List Int) (a k : Nat) : Int := l[k / a * a + a - 1 - k % a]?.getD 0
def mixF (l : List Int) (a k : Nat) : List Int := (List.range k).map (flipAt l a) ++ l.drop k
def flipF (W H : Int) (l : List Int) : List Int := if validImg W H l then mixF l W.toNat l.length else l
theorem mixF_len (l : List Int) (a k : Nat) (h : k ≤ l.length) : (mixF l a k).length = l.length := by simp [mixF]; omega
theorem mixF_zero (l : List Int) (a : Nat) : mixF l a 0 = l := by simp [mixF]
theorem flipF_len (W H : Int) (l : List Int) : (flipF W H l).length = l.length := by
  unfold flipF; split
  · exact mixF_len _ _ _ (Nat.le_refl _)
  · rfl
theorem mixF_set {l : List Int} {a k : Nat} (h : k < l.length) : (ints (mixF l a k)).set k (.int .i64 (flipAt l a k)) = ints (mixF l a (k + 1)) := by
  rw [show (Value.int .i64 (flipAt l a k)) = (fun n => Value.int .i64 n) (flipAt l a k) from rfl]
  show (List.map _ _).set _ _ = List.map _ _
  rw [← List.map_set]
  congr 1
  unfold mixF
  rw [List.set_append_right _ _ (by simp), List.range_succ, List.map_append, List.append_assoc]
  congr 1
  have hd : List.drop k l = l[k] :: List.drop (k + 1) l := List.drop_eq_getElem_cons h
  rw [List.length_map, List.length_range, Nat.sub_self, hd]
  rfl
theorem flip_nat {a b k n : Nat} (ha : 1 ≤ a) (hn : n = a * b) (hk : k < n) : ∃ m r : Nat, k / a * a = m ∧ k % a = r ∧ k = m + r ∧ r < a ∧ m + a ≤ n := by
  refine ⟨k / a * a, k % a, rfl, rfl, ?_, Nat.mod_lt _ ha, ?_⟩
  · have := Nat.div_add_mod k a
    rw [Nat.mul_comm] at this
    exact this.symm
  · have h1 : k / a < b := by rw [Nat.div_lt_iff_lt_mul ha, Nat.mul_comm, ← hn]; exact hk
    have h2 : (k / a + 1) * a ≤ b * a := Nat.mul_le_mul_right _ h1
    rw [Nat.succ_mul, Nat.mul_comm b a, ← hn] at h2
    exact h2
/-- One row of the flipped image: the row turned about. -/
theorem mixF_row {l : List Int} {a j : Nat} (ha : 1 ≤ a) (hj : j * a + a ≤ l.length) :
    ∃ P Q : List Int, P.length = j * a ∧ mixF l a (j * a) = P ++ (l.drop (j * a)).take a ++ Q ∧ mixF l a ((j + 1) * a) = P ++ ((l.drop (j * a)).take a).reverse ++ Q := by
  refine ⟨(List.range (j * a)).map (flipAt l a), l.drop (j * a + a), by simp, ?_, ?_⟩
  · unfold mixF
    rw [List.append_assoc]
    congr 1
    rw [← List.drop_drop, List.take_append_drop]
  · unfold mixF
    rw [Nat.succ_mul, List.range_add, List.map_append]
    congr 1
    congr 1
    have hlen : ((l.drop (j * a)).take a).length = a := by rw [List.length_take, List.length_drop]; omega
    apply List.ext_getElem?
    intro i
    rcases Nat.lt_or_ge i a with h | h
    · rw [List.getElem?_reverse (by omega), hlen, List.getElem?_take_of_lt (by omega), List.getElem?_drop]
      simp only [List.getElem?_map, List.getElem?_range h, Option.map_some]
      unfold flipAt
      have hd : (j * a + i) / a = j := by rw [Nat.mul_comm, Nat.mul_add_div ha, Nat.div_eq_of_lt h, Nat.add_zero]
      have hm : (j * a + i) % a = i := by rw [Nat.mul_comm, Nat.mul_add_mod, Nat.mod_eq_of_lt h]
      rw [hd, hm, show j * a + a - 1 - i = j * a + (a - 1 - i) by omega, List.getElem?_eq_getElem (by omega)]
      rfl
    · rw [List.getElem?_eq_none (by simp; omega), List.getElem?_eq_none (by rw [List.length_reverse]; omega)]
set_option maxRecDepth 20000 in
set_option maxHeartbeats 4000000 in
theorem S_FlipImage {W H : Int} {A : Option Addr} {c : Nat} {l : List Int} (w : World) (hs : l.length ≤ 1048576) (h : RS w 1 A l.length c (ints l)) :
    Calls Try.prog 53 #[vImage W H (.slice A l.length c)] w (MadeImage (fun s0 => vImage W H s0) l.length (ints (flipF W H l)) w) := by
  have H0 := Lib.hid h
  have hlen := h.len
  unfold maxLen at hlen
  clear h
  cases hv : validImg W H l
  case false =>
    have HV : Hid (flipF W H l = l) := by show _ = _; unfold flipF; rw [hv]; rfl
    go_enter Try.func53, Try.ntmps53
    go_wp2_with fail
    refine (S_l30Copy _ hs (RS.step (by repeat (first | (with_reducible exact Below.refl _ _) | (with_reducible assumption) | ((with_reducible refine Below.alloc ?_ ?_ _); rotate_left; (first | omega | (simp <;> omega))) | ((with_reducible refine Below.setCell ?_ ?_ _); rotate_left; (first | omega | (simp <;> omega))) | (with_reducible refine below_drewN ?_ _) | (with_reducible refine Below.drew ?_) | ((with_reducible refine Below.step (by assumption) ?_ ?_); rotate_left; (first | omega | (simp <;> omega))))) H0.out)).mono ?_
    rintro e w1 ⟨B, d, rfl, ho, hge, hb1⟩
    have hz1 := hb1.size
    (try simp at hz1)
    have hB1 : Below w.heap.size w w1 := (by repeat (first | (with_reducible exact Below.refl _ _) | (with_reducible assumption) | ((with_reducible refine Below.alloc ?_ ?_ _); rotate_left; (first | omega | (simp <;> omega))) | ((with_reducible refine Below.setCell ?_ ?_ _); rotate_left; (first | omega | (simp <;> omega))) | (with_reducible refine below_drewN ?_ _) | (with_reducible refine Below.drew ?_) | ((with_reducible refine Below.step (by assumption) ?_ ?_); rotate_left; (first | omega | (simp <;> omega)))))
    obtain ⟨cc1, ff1⟩ := bcell (hb1.mono (show w.heap.size + 2 ≤ _ by first | omega | (simp <;> omega)))
    have ya : w.heap.size < w1.heap.size := by omega
    have yb : w.heap.size + 1 < w1.heap.size := by omega
    have hge' : ∀ x, x ∈ gOf B → w.heap.size + 2 ≤ x := fun x hx => by have := hge x hx; simp at this; omega
    have HB1 := Lib.hid hB1
    have HO := Lib.hid ho
    clear ho hb1 hB1
    go_wp2_with fail
    refine (S_IsValidImage _ (RS.step (by repeat (first | (with_reducible exact Below.refl _ _) | (with_reducible exact HB1.out) | (with_reducible assumption) | ((with_reducible refine Below.alloc ?_ ?_ _); rotate_left; (first | omega | (simp <;> omega))) | ((with_reducible refine Below.setCell ?_ ?_ _); rotate_left; (first | omega | (simp <;> omega))) | (with_reducible refine below_drewN ?_ _) | (with_reducible refine Below.drew ?_) | ((with_reducible refine Below.step (by assumption) ?_ ?_); rotate_left; (first | omega | (simp <;> omega))))) H0.out)).mono ?_
    rintro e w2 ⟨rfl, hb2⟩
    have hz2 := hb2.size
    (try simp at hz2)
    obtain ⟨cc2, ff2⟩ := bcell (hb2.mono (show w1.heap.size + 1 ≤ _ by first | omega | (simp <;> omega)))
    have yc : w1.heap.size < w2.heap.size := by omega
    have yd : w.heap.size + 1 < w2.heap.size := by omega
    have HB2 : Hid (Below w.heap.size w w2) := Lib.hid (by repeat (first | (with_reducible exact Below.refl _ _) | (with_reducible exact HB1.out) | (with_reducible assumption) | ((with_reducible refine Below.alloc ?_ ?_ _); rotate_left; (first | omega | (simp <;> omega))) | ((with_reducible refine Below.setCell ?_ ?_ _); rotate_left; (first | omega | (simp <;> omega))) | (with_reducible refine below_drewN ?_ _) | (with_reducible refine Below.drew ?_) | ((with_reducible refine Below.step (by assumption) ?_ ?_); rotate_left; (first | omega | (simp <;> omega)))))
    have HO2 : Hid (OwnS w2 1 B l.length d 3 (ints l)) := Lib.hid (OwnS.step (by first | assumption | exact hb2) (OwnS.alloc HO.out _))
    go_wp2
    rw [HV.out]
    refine bodyPost_ret (v := vImage W H (.slice B l.length d)) (by simp [results, Try.results53, go_sem, *]) rfl ⟨B, d, rfl, ?_, fun x hx => by have := hge' x hx; omega, ?_⟩
    · exact (by repeat (first | (with_reducible exact HO2.out) | ((with_reducible refine OwnS.far ?_ ?_ _); rotate_left; (intro x hx; have := hge' x hx; simp; omega)) | (with_reducible refine OwnS.drew ?_) | (with_reducible refine OwnS.drewN ?_ _)))
    · exact (by repeat (first | (with_reducible exact Below.refl _ _) | (with_reducible exact HB2.out) | (with_reducible assumption) | ((with_reducible refine Below.alloc ?_ ?_ _); rotate_left; (first | omega | (simp <;> omega))) | ((with_reducible refine Below.setCell ?_ ?_ _); rotate_left; (first | omega | (simp <;> omega))) | (with_reducible refine below_drewN ?_ _) | (with_reducible refine Below.drew ?_) | ((with_reducible refine Below.step (by assumption) ?_ ?_); rotate_left; (first | omega | (simp <;> omega)))))
  case true =>
    obtain ⟨⟨hW1, hW2⟩, ⟨hH1, hH2⟩, hln0, h144, _⟩ := validImg_len hv
    obtain ⟨a, rfl⟩ := Int.eq_ofNat_of_zero_le (show 0 ≤ W by omega)
    obtain ⟨b, rfl⟩ := Int.eq_ofNat_of_zero_le (show 0 ≤ H by omega)
    have hln : l.length = a * b := by rw [← Int.natCast_mul] at hln0; omega
    have HV : Hid (flipF a b l = mixF l a l.length) := by show _ = _; unfold flipF; rw [hv]; rfl
    have a1 : 1 ≤ a := by omega
    have a2 : a ≤ 12 := by omega
    have b1 : 1 ≤ b := by omega
    have hpos : 0 < l.length := by rw [hln]; exact Nat.mul_pos a1 b1
    obtain ⟨bA, oA, rfl, hbA, _⟩ := H0.out.open_.2.2 hpos
    have HLN := Lib.hid hln
    clear hln hln0
    go_enter Try.func53, Try.ntmps53
    go_wp2_with fail
    refine (S_l30Copy _ hs (RS.step (by repeat (first | (with_reducible exact Below.refl _ _) | (with_reducible assumption) | ((with_reducible refine Below.alloc ?_ ?_ _); rotate_left; (first | omega | (simp <;> omega))) | ((with_reducible refine Below.setCell ?_ ?_ _); rotate_left; (first | omega | (simp <;> omega))) | (with_reducible refine below_drewN ?_ _) | (with_reducible refine Below.drew ?_) | ((with_reducible refine Below.step (by assumption) ?_ ?_); rotate_left; (first | omega | (simp <;> omega))))) H0.out)).mono ?_
    rintro e w1 ⟨B, d, rfl, ho, hge, hb1⟩
    have hge' : ∀ x, x ∈ gOf B → w.heap.size + 2 ≤ x := fun x hx => by have := hge x hx; simp at this; omega
    clear hge
    have hz1 := hb1.size
    (try simp at hz1)
    have hB1 : Below w.heap.size w w1 := (by repeat (first | (with_reducible exact Below.refl _ _) | (with_reducible assumption) | ((with_reducible refine Below.alloc ?_ ?_ _); rotate_left; (first | omega | (simp <;> omega))) | ((with_reducible refine Below.setCell ?_ ?_ _); rotate_left; (first | omega | (simp <;> omega))) | (with_reducible refine below_drewN ?_ _) | (with_reducible refine Below.drew ?_) | ((with_reducible refine Below.step (by assumption) ?_ ?_); rotate_left; (first | omega | (simp <;> omega)))))
    obtain ⟨cc1, ff1⟩ := bcell (hb1.mono (show w.heap.size + 2 ≤ _ by first | omega | (simp <;> omega)))
    have ya : w.heap.size < w1.heap.size := by omega
    have yb : w.heap.size + 1 < w1.heap.size := by omega
    have HB1 := Lib.hid hB1
    have HO := Lib.hid ho
    clear ho hb1 hB1
    go_wp2_with fail
    refine (S_IsValidImage _ (RS.step (by repeat (first | (with_reducible exact Below.refl _ _) | (with_reducible exact HB1.out) | (with_reducible assumption) | ((with_reducible refine Below.alloc ?_ ?_ _); rotate_left; (first | omega | (simp <;> omega))) | ((with_reducible refine Below.setCell ?_ ?_ _); rotate_left; (first | omega | (simp <;> omega))) | (with_reducible refine below_drewN ?_ _) | (with_reducible refine Below.drew ?_) | ((with_reducible refine Below.step (by assumption) ?_ ?_); rotate_left; (first | omega | (simp <;> omega))))) H0.out)).mono ?_
    rintro e w2 ⟨rfl, hb2⟩
    have hz2 := hb2.size
    (try simp at hz2)
    obtain ⟨cc2, ff2⟩ := bcell (hb2.mono (show w1.heap.size + 1 ≤ _ by first | omega | (simp <;> omega)))
    have yc : w1.heap.size < w2.heap.size := by omega
    have yd : w.heap.size + 1 < w2.heap.size := by omega
    have ye : w.heap.size < w2.heap.size := by omega
    have HB2 : Hid (Below w.heap.size w w2) := Lib.hid (by repeat (first | (with_reducible exact Below.refl _ _) | (with_reducible exact HB1.out) | (with_reducible assumption) | ((with_reducible refine Below.alloc ?_ ?_ _); rotate_left; (first | omega | (simp <;> omega))) | ((with_reducible refine Below.setCell ?_ ?_ _); rotate_left; (first | omega | (simp <;> omega))) | (with_reducible refine below_drewN ?_ _) | (with_reducible refine Below.drew ?_) | ((with_reducible refine Below.step (by assumption) ?_ ?_); rotate_left; (first | omega | (simp <;> omega)))))
    have ho2 : OwnS w2 1 B l.length d 3 (ints l) := OwnS.step (by first | assumption | exact hb2) (OwnS.alloc HO.out _)
    have hBlt : ∀ x, x ∈ gOf B → x < w1.heap.size := OwnS.lt HO.out
    obtain ⟨_, hd1, hd2, ⟨_, h0⟩ | ⟨g, ds, rfl, hg2⟩⟩ := ho2
    · omega
    unfold maxLen at hd2
    have hg0 : w.heap.size + 2 ≤ g := hge' g (by simp [gOf])
    have hg1 : g < w1.heap.size := hBlt g (by simp [gOf])
    have k0 : w2.cell? ⟨w.heap.size, 0, none⟩ = some (.int .i64 a) := by go_simp
    have k2 : w2.cell? ⟨w.heap.size, 2, none⟩ = some (.slice (some ⟨bA, oA, none⟩) l.length c) := by go_simp
    have kr : ∀ o, w2.frozen? ⟨w.heap.size + 1, o, none⟩ = false := by intro o; go_simp
    have kr0 : w2.cell? ⟨w.heap.size + 1, 0, none⟩ = some (.int .i64 0) := by go_simp
    have kr1 : w2.cell? ⟨w.heap.size + 1, 1, none⟩ = some (.int .i64 0) := by go_simp
    have kr2 : w2.cell? ⟨w.heap.size + 1, 2, none⟩ = some (.slice none 0 0) := by go_simp
    have q0 : w2.cell? ⟨w1.heap.size, 0, none⟩ = some (.int .i64 a) := by go_simp
    have q1 : w2.cell? ⟨w1.heap.size, 1, none⟩ = some (.int .i64 b) := by go_simp
    have q2 : w2.cell? ⟨w1.heap.size, 2, none⟩ = some (.slice (some ⟨g, 0, none⟩) l.length d) := by go_simp
    clear hge' hBlt cc1 ff1 cc2 ff2 hb2 HO
    have HG2 := Lib.hid hg2
    clear hg2
    go_wp2_with fail
    go_loopw [4, 14] (fun _ i wr => ∃ k : Nat, k ≤ l.length ∧ i = .int .i64 k ∧ Own wr g 3 (ints (mixF l a k) ++ ds) ∧ Only w2.heap.size [g] w2 wr) (fun _ i _ => l.length - (intOf i).toNat)
    case atStart => exact ⟨0, Nat.zero_le _, rfl, by rw [mixF_zero]; exact HG2.out, Only.refl _ _ _⟩
    case round =>
      obtain ⟨k, hk, rfl, hog, hO⟩ := hrel
      have hOz := hO.size
      obtain ⟨oc0, of0⟩ := hO.cell w.heap.size (by omega) (by simp; omega)
      obtain ⟨oc1, of1⟩ := hO.cell (w.heap.size + 1) (by omega) (by simp; omega)
      obtain ⟨oc2, of2⟩ := hO.cell w1.heap.size (by omega) (by simp; omega)
      have e0 := (oc0 0).trans k0
      have e2 := (oc0 2).trans k2
      have er0 := (oc1 0).trans kr0
      have er1 := (oc1 1).trans kr1
      have er2 := (oc1 2).trans kr2
      have erf : ∀ o, wr.frozen? ⟨w.heap.size + 1, o, none⟩ = false := fun o => (of1 o).trans (kr o)
      have u0 := (oc2 0).trans q0
      have u1 := (oc2 1).trans q1
      have u2 := (oc2 2).trans q2
      have hbw : Below w.heap.size w wr := Below.trans HB2.out (hO.below (by omega) (fun x hx => by simp at hx; omega))
      have HR := Lib.hid (RS.step hbw H0.out)
      have HBW := Lib.hid hbw
      have HOG := Lib.hid hog
      have HOO := Lib.hid hO
      clear oc0 of0 oc1 of1 oc2 of2 hbw hog hO
      by_cases hlt : k < l.length
      · obtain ⟨m, r, hm, hr, hkm, hra, hma⟩ := flip_nat (b := b) a1 HLN.out hlt
        have HS := Lib.hid (mixF_set (a := a) hlt)
        have hfl : flipAt l a k = l[m + a - 1 - r]'(by omega) := by unfold flipAt; rw [hm, hr, List.getElem?_eq_getElem (by omega)]; rfl
        have hfr : wr.frozen? ⟨g, k, none⟩ = false := HOG.out.frozen _
        have hgk : wr.cell? ⟨g, k, none⟩ = some ((ints (mixF l a k) ++ ds)[k]'(by simp [mixF_len l a k hk]; omega)) := by rw [HOG.out.cell, List.getElem?_eq_getElem]
        generalize (ints (mixF l a k) ++ ds)[k]'(by simp [mixF_len l a k hk]; omega) = old at hgk
        have hci : wr.cell? ⟨bA, oA + (m + a - 1 - r), none⟩ = some (.int .i64 (flipAt l a k)) := by
          obtain ⟨bA', oA', hA', _, hcell⟩ := HR.out.open_.2.2 hpos
          obtain ⟨rfl, rfl⟩ : bA = bA' ∧ oA = oA' := by simpa using hA'
          rw [hcell _ (by omega), hfl]
          exact ints_at (by omega)
        generalize flipAt l a k = z at *
        obtain ⟨q, hq⟩ : ∃ q, k / a = q := ⟨_, rfl⟩
        rw [hq] at hm
        have hq1' : (k : Int) / (a : Int) = (q : Int) := by rw [← hq]; rfl
        have hq2' : (k : Int) % (a : Int) = (r : Int) := by rw [← hr]; rfl
        have hq1 : Int.tdiv (k : Int) (a : Int) = (q : Int) := by rw [Int.tdiv_eq_ediv_of_nonneg (by omega), hq1']
        have hq2 : Int.tmod (k : Int) (a : Int) = (r : Int) := by rw [Int.tmod_eq_emod_of_nonneg (by omega), hq2']
        have hq3 : (q : Int) * (a : Int) = (m : Int) := by rw [← hm]; simp
        have ha0 : ((a : Int) == 0) = false := by rw [beq_eq_false_iff_ne]; omega
        have ha1 : (a == 0) = false := by rw [beq_eq_false_iff_ne]; omega
        have ha2 : ¬ a = 0 := by omega
        have hqk : q ≤ k := by rw [← hq]; exact Nat.div_le_self _ _
        have w0' : IntKind.i64.wrap (q : Int) = q := IntWalk.i64_in _ (by omega)
        have w5' : IntKind.i64.wrap (r : Int) = r := IntWalk.i64_in _ (by omega)
        clear hq
        have i0 : (0 : Int) ≤ k := by omega
        have i1 : (k : Int) < l.length := by omega
        have w1' : IntKind.i64.wrap (m : Int) = m := IntWalk.i64_in _ (by omega)
        have w2' : IntKind.i64.wrap ((m : Int) + (a : Int)) = (m : Int) + (a : Int) := IntWalk.i64_in _ (by omega)
        have w3' : IntKind.i64.wrap ((m : Int) + (a : Int) - 1) = (m : Int) + (a : Int) - 1 := IntWalk.i64_in _ (by omega)
        obtain ⟨j, hj⟩ : ∃ j, m + a - 1 - r = j := ⟨_, rfl⟩
        rw [hj] at hci
        have w4' : IntKind.i64.wrap ((m : Int) + (a : Int) - 1 - (r : Int)) = (j : Int) := by rw [show (m : Int) + (a : Int) - 1 - (r : Int) = (j : Int) by omega]; exact IntWalk.i64_in _ (by omega)
        have s1 : (0 : Int) ≤ (j : Int) := by omega
        have s2 : (j : Int) < l.length := by omega
        clear hj
        have hml : k < (ints (mixF l a k)).length := by simp [mixF_len l a k hk]; omega
        have HML := Lib.hid hml
        clear hml hfl hm hr hkm
        go_wp2_with fail
        go_still_tail 23, (by kernel_rfl)
        go_wp2
        go_roundw
        case rel => exact ⟨k + 1, by omega, by go_num, by rw [← HS.out]; exact Own.drew (Own.set_left HOG.out _ HML.out _), Only.drew (Only.setCell (p := ⟨g, k, none⟩) HOO.out (by simp) _)⟩
        case measure => simp [intOf]; omega
      · obtain rfl : k = l.length := by omega
        have HOS : Hid (OwnS wr 1 (some ⟨g, 0, none⟩) l.length d 3 (ints (mixF l a l.length))) := Lib.hid ⟨by simp [mixF_len], hd1, by unfold maxLen; omega, .inr ⟨g, ds, rfl, HOG.out⟩⟩
        have hge' : ∀ x, x ∈ gOf (some (⟨g, 0, none⟩ : Addr)) → w.heap.size + 2 ≤ x := fun x hx => by simp [gOf] at hx; omega
        go_wp2
        rw [HV.out]
        refine bodyPost_ret (v := vImage a b (.slice (some ⟨g, 0, none⟩) l.length d)) (by simp [results, Try.results53, go_sem, *]) rfl ⟨some ⟨g, 0, none⟩, d, rfl, ?_, fun x hx => by have := hge' x hx; omega, ?_⟩
        · exact (by repeat (first | (with_reducible exact HOS.out) | ((with_reducible refine OwnS.far ?_ ?_ _); rotate_left; (intro x hx; have := hge' x hx; simp; omega)) | (with_reducible refine OwnS.drew ?_) | (with_reducible refine OwnS.drewN ?_ _)))
        · exact (by repeat (first | (with_reducible exact Below.refl _ _) | (with_reducible exact HBW.out) | (with_reducible assumption) | ((with_reducible refine Below.alloc ?_ ?_ _); rotate_left; (first | omega | (simp <;> omega))) | ((with_reducible refine Below.setCell ?_ ?_ _); rotate_left; (first | omega | (simp <;> omega))) | (with_reducible refine below_drewN ?_ _) | (with_reducible refine Below.drew ?_) | ((with_reducible refine Below.step (by assumption) ?_ ?_); rotate_left; (first | omega | (simp <;> omega)))))
end Go.Proofs.Ytndipkclmecpoaa
