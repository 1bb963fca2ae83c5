/- CropImage of the reference and of the program. -/
import Derived.Test.YtndipkclmecpoaaDigest
import Derived.Test.YtndipkclmecpoaaMade
import Derived.Deep.RegionHeld3
namespace Go.Proofs.Ytndipkclmecpoaa
open Go.RowKit
set_option linter.unusedVariables false
set_option maxRecDepth 20000
/-- A cell's value, whatever it is. -/
def cellOf (w : World) (a : Addr) : Value := (w.cell? a).getD undef
theorem cellOf_some {w : World} {a : Addr} {v : Value} (h : w.cell? a = some v) : w.cell? a = some (cellOf w a) := by unfold cellOf; rw [h]; rfl
theorem cellOf_is {w : World} {a : Addr} {v : Value} (h : w.cell? a = some v) : cellOf w a = v := by unfold cellOf; rw [h]; rfl
theorem RS.part1 {w : World} {b o n c : Nat} {l : List Int} (h : RS w 1 (some ⟨b, o, none⟩) n c (ints l)) (lo len d : Nat) (hj : lo + len ≤ n) (hd : len ≤ d) (hd2 : d ≤ maxLen) :
    RS w 1 (some ⟨b, o + lo, none⟩) len d (ints ((l.drop lo).take len)) := by
  have := h.part rfl lo (lo + len) d (by omega) hj (by omega) hd2
  simp only [Nat.mul_one, show lo + len - lo = len by omega] at this
  rwa [← List.map_drop, ← List.map_take] at this
def insideF (x y p q W H : Int) : Bool := inB x 0 (W - 1) && (inB y 0 (H - 1) && (inB p 1 (W - x) && inB q 1 (H - y)))
theorem insideF_true {x y p q W H : Int} (h : insideF x y p q W H = true) : (0 ≤ x ∧ x ≤ W - 1) ∧ (0 ≤ y ∧ y ≤ H - 1) ∧ (1 ≤ p ∧ p ≤ W - x) ∧ 1 ≤ q ∧ q ≤ H - y := by
  simp only [insideF, Bool.and_eq_true] at h
  exact ⟨inB_true h.1, inB_true h.2.1, inB_true h.2.2.1, inB_true h.2.2.2⟩
theorem inside_ways (x y p q W H : Int) : (insideF x y p q W H = true ∧ inB x 0 (W - 1) = true ∧ inB y 0 (H - 1) = true ∧ inB p 1 (W - x) = true ∧ inB q 1 (H - y) = true) ∨ (insideF x y p q W H = false ∧ inB x 0 (W - 1) = false) ∨ (insideF x y p q W H = false ∧ inB x 0 (W - 1) = true ∧ inB y 0 (H - 1) = false) ∨
    (insideF x y p q W H = false ∧ inB x 0 (W - 1) = true ∧ inB y 0 (H - 1) = true ∧ inB p 1 (W - x) = false) ∨ (insideF x y p q W H = false ∧ inB x 0 (W - 1) = true ∧ inB y 0 (H - 1) = true ∧ inB p 1 (W - x) = true ∧ inB q 1 (H - y) = false) := by
  unfold insideF
  cases inB x 0 (W - 1) <;> cases inB y 0 (H - 1) <;> cases inB p 1 (W - x) <;> cases inB q 1 (H - y) <;> simp
set_option maxHeartbeats 1000000 in
theorem I_inside {x y p q W H : Int} (w : World) (hW : 1 ≤ W ∧ W ≤ 12) (hH : 1 ≤ H ∧ H ≤ 12) :
    Calls Try.prog 98 #[vBucket x y p q, .int .i64 W, .int .i64 H] w fun e w' => e = .returned (.bool (insideF x y p q W H)) ∧ Below w.heap.size w w' := by
  obtain ⟨hW1, hW2⟩ := hW
  obtain ⟨hH1, hH2⟩ := hH
  rcases inside_ways x y p q W H with ⟨h0, h1, h2, h3, h4⟩ | ⟨h0, h1⟩ | ⟨h0, h1, h2⟩ | ⟨h0, h1, h2, h3⟩ | ⟨h0, h1, h2, h3, h4⟩
  · have HE := Lib.hid h0
    obtain ⟨a1, a2⟩ := inB_true h1
    obtain ⟨b1, b2⟩ := inB_true h2
    clear h0
    go_enter Try.func98, Try.ntmps98
    go_wp2_with (go_at_call 93; refine (I_within _ _ _ _).mono ?_; rintro e w' ⟨rfl, rfl⟩)
    go_ret
    exact ⟨ret_bool HE.out.symm, (by repeat (first | (with_reducible exact Below.refl _ _) | (with_reducible assumption) | ((with_reducible refine Below.alloc ?_ ?_ _); rotate_left; (first | omega | (simp <;> omega))) | ((with_reducible refine Below.setCell ?_ ?_ _); rotate_left; (first | omega | (simp <;> omega))) | (with_reducible refine below_drewN ?_ _) | (with_reducible refine Below.drew ?_) | ((with_reducible refine Below.step (by assumption) ?_ ?_); rotate_left; (first | omega | (simp <;> omega)))))⟩
  · have HE := Lib.hid h0
    clear h0
    go_enter Try.func98, Try.ntmps98
    go_wp2_with (go_at_call 93; refine (I_within _ _ _ _).mono ?_; rintro e w' ⟨rfl, rfl⟩)
    go_ret
    exact ⟨ret_bool HE.out.symm, (by repeat (first | (with_reducible exact Below.refl _ _) | (with_reducible assumption) | ((with_reducible refine Below.alloc ?_ ?_ _); rotate_left; (first | omega | (simp <;> omega))) | ((with_reducible refine Below.setCell ?_ ?_ _); rotate_left; (first | omega | (simp <;> omega))) | (with_reducible refine below_drewN ?_ _) | (with_reducible refine Below.drew ?_) | ((with_reducible refine Below.step (by assumption) ?_ ?_); rotate_left; (first | omega | (simp <;> omega)))))⟩
  · have HE := Lib.hid h0
    obtain ⟨a1, a2⟩ := inB_true h1
    clear h0
    go_enter Try.func98, Try.ntmps98
    go_wp2_with (go_at_call 93; refine (I_within _ _ _ _).mono ?_; rintro e w' ⟨rfl, rfl⟩)
    go_ret
    exact ⟨ret_bool HE.out.symm, (by repeat (first | (with_reducible exact Below.refl _ _) | (with_reducible assumption) | ((with_reducible refine Below.alloc ?_ ?_ _); rotate_left; (first | omega | (simp <;> omega))) | ((with_reducible refine Below.setCell ?_ ?_ _); rotate_left; (first | omega | (simp <;> omega))) | (with_reducible refine below_drewN ?_ _) | (with_reducible refine Below.drew ?_) | ((with_reducible refine Below.step (by assumption) ?_ ?_); rotate_left; (first | omega | (simp <;> omega)))))⟩
  all_goals
    have HE := Lib.hid h0
    obtain ⟨a1, a2⟩ := inB_true h1
    obtain ⟨b1, b2⟩ := inB_true h2
    clear h0
    go_enter Try.func98, Try.ntmps98
    go_wp2_with (go_at_call 93; refine (I_within _ _ _ _).mono ?_; rintro e w' ⟨rfl, rfl⟩)
    go_ret
    exact ⟨ret_bool HE.out.symm, (by repeat (first | (with_reducible exact Below.refl _ _) | (with_reducible assumption) | ((with_reducible refine Below.alloc ?_ ?_ _); rotate_left; (first | omega | (simp <;> omega))) | ((with_reducible refine Below.setCell ?_ ?_ _); rotate_left; (first | omega | (simp <;> omega))) | (with_reducible refine below_drewN ?_ _) | (with_reducible refine Below.drew ?_) | ((with_reducible refine Below.step (by assumption) ?_ ?_); rotate_left; (first | omega | (simp <;> omega)))))⟩
/-- A row of an image: the first a cells behind j * a. -/
theorem I_irow {b o n c a j : Nat} {H : Int} (w : World) (hc : n ≤ c) (hc' : c ≤ maxLen) (ha : 1 ≤ a ∧ a ≤ 12) (hj : j ≤ 12) (hn : (j + 1) * a ≤ n) :
    Calls Try.prog 99 #[vImage a H (.slice (some ⟨b, o, none⟩) n c), .int .i64 j] w fun e w' => e = .returned (.slice (some ⟨b, o + j * a, none⟩) a (c - j * a)) ∧ Below w.heap.size w w' := by
  unfold maxLen at hc'
  obtain ⟨a1, a2⟩ := ha
  have hr : (j : Int) * (a : Int) = ((j * a : Nat) : Int) := by simp
  have hr2 : ((j : Int) + 1) * (a : Int) = ((j * a + a : Nat) : Int) := by rw [Int.add_mul, Int.one_mul, hr]; omega
  rw [Nat.succ_mul] at hn
  have h144 : j * a ≤ 12 * 12 := Nat.mul_le_mul hj a2
  generalize j * a = r at *
  have hp1 : IntKind.i64.wrap ((j : Int) * (a : Int)) = r := by rw [hr]; exact IntWalk.i64_in _ (by omega)
  have hp2 : IntKind.i64.wrap (((j : Int) + 1) * (a : Int)) = ((r + a : Nat) : Int) := by rw [hr2]; exact IntWalk.i64_in _ (by omega)
  clear hr hr2
  go_enter Try.func99, Try.ntmps99
  go_wp2
  go_ret
  exact ⟨ret_slice rfl (by omega) rfl, (by repeat (first | (with_reducible exact Below.refl _ _) | (with_reducible assumption) | ((with_reducible refine Below.alloc ?_ ?_ _); rotate_left; (first | omega | (simp <;> omega))) | ((with_reducible refine Below.setCell ?_ ?_ _); rotate_left; (first | omega | (simp <;> omega))) | (with_reducible refine below_drewN ?_ _) | (with_reducible refine Below.drew ?_) | ((with_reducible refine Below.step (by assumption) ?_ ?_); rotate_left; (first | omega | (simp <;> omega)))))⟩
/-- Rows y, y + 1, .. of a part of an image. -/
def cropTo (l : List Int) (a x y p : Nat) (i : Nat) : List Int := (List.range i).flatMap (fun k => (l.drop ((y + k) * a + x)).take p)
theorem cropTo_succ (l : List Int) (a x y p i : Nat) : cropTo l a x y p (i + 1) = cropTo l a x y p i ++ (l.drop ((y + i) * a + x)).take p := by
  unfold cropTo; rw [List.range_succ, List.flatMap_append]; simp
theorem cropTo_len (l : List Int) (a x y p : Nat) : ∀ i, (cropTo l a x y p i).length ≤ i * p
  | 0 => by simp [cropTo]
  | i + 1 => by
    rw [cropTo_succ, List.length_append, Nat.succ_mul]
    have := cropTo_len l a x y p i
    have h2 : ((l.drop ((y + i) * a + x)).take p).length ≤ p := List.length_take_le _ _
    omega
def cropOk (W H : Int) (l : List Int) (x y p q : Int) : Bool := validImg W H l && insideF x y p q W H
def cropL (W H : Int) (l : List Int) (x y p q : Int) : List Int := if cropOk W H l x y p q then cropTo l W.toNat x.toNat y.toNat p.toNat q.toNat else []
/-- A valid crop, in natural numbers. -/
theorem crop_nat {W H : Int} {l : List Int} {x y p q : Int} (hv : validImg W H l = true) (hi : insideF x y p q W H = true) :
    ∃ a b xn yn pn qn : Nat, W = a ∧ H = b ∧ x = xn ∧ y = yn ∧ p = pn ∧ q = qn ∧ (1 ≤ a ∧ a ≤ 12) ∧ (1 ≤ b ∧ b ≤ 12) ∧ xn + pn ≤ a ∧ yn + qn ≤ b ∧ 1 ≤ pn ∧ 1 ≤ qn ∧ l.length = a * b := by
  obtain ⟨u1, u2, c, d, e⟩ := validImg_len hv
  obtain ⟨h1, h2, h3, h4⟩ := insideF_true hi
  obtain ⟨a, rfl⟩ := Int.eq_ofNat_of_zero_le (show 0 ≤ W by omega)
  obtain ⟨b, rfl⟩ := Int.eq_ofNat_of_zero_le (show 0 ≤ H by omega)
  obtain ⟨xn, rfl⟩ := Int.eq_ofNat_of_zero_le (show 0 ≤ x by omega)
  obtain ⟨yn, rfl⟩ := Int.eq_ofNat_of_zero_le (show 0 ≤ y by omega)
  obtain ⟨pn, rfl⟩ := Int.eq_ofNat_of_zero_le (show 0 ≤ p by omega)
  obtain ⟨qn, rfl⟩ := Int.eq_ofNat_of_zero_le (show 0 ≤ q by omega)
  refine ⟨a, b, xn, yn, pn, qn, rfl, rfl, rfl, rfl, rfl, rfl, by omega, by omega, by omega, by omega, by omega, by omega, ?_⟩
  rw [← Int.natCast_mul] at c
  omega
def CropR (ok : Bool) (p q : Int) (l : List Int) (w : World) : Ending → World → Prop :=
  MadeImage (fun s0 => .tuple #[vImage (if ok then p else 0) (if ok then q else 0) s0, .bool ok]) (if ok then l else []).length (ints (if ok then l else [])) w
theorem CropR.no {p q : Int} {l : List Int} {w w' : World} (hB : Below w.heap.size w w') : CropR false p q l w (.returned (.tuple #[vImage 0 0 (.slice none 0 0), .bool false])) w' :=
  ⟨none, 0, rfl, OwnS.none_ _ _ _, fun x hx => absurd hx (by simp [gOf]), hB⟩
theorem row_end {a b y q j : Nat} (hj : j < y + q) (hq : y + q ≤ b) : j * a + a ≤ a * b := by
  have : (j + 1) * a ≤ b * a := Nat.mul_le_mul_right _ (by omega)
  rw [Nat.succ_mul, Nat.mul_comm b a] at this
  exact this
set_option maxHeartbeats 8000000 in
theorem S_CropImage {W H x y p q : Int} {A : Option Addr} {c : Nat} {l : List Int} (w : World) (h : RS w 1 A l.length c (ints l)) :
    Calls Try.prog 46 #[vImage W H (.slice A l.length c), vBucket x y p q] w (CropR (cropOk W H l x y p q) p q (cropTo l W.toNat x.toNat y.toNat p.toNat q.toNat) w) := by
  have H0 := Lib.hid h
  have hlen := h.len
  unfold maxLen at hlen
  clear h
  cases hv : validImg W H l
  case false =>
    have HV : Hid (CropR (cropOk W H l x y p q) p q (cropTo l W.toNat x.toNat y.toNat p.toNat q.toNat) w = CropR false p q (cropTo l W.toNat x.toNat y.toNat p.toNat q.toNat) w) := by show _ = _; unfold cropOk; rw [hv]; rfl
    go_enter Try.func46, Try.ntmps46
    go_wp2_with fail
    refine (S_IsValidImage _ (RS.step (by repeat (first | (with_reducible exact Below.refl _ _) | (with_reducible assumption) | ((with_reducible refine Below.alloc ?_ ?_ _); rotate_left; (first | omega | (simp <;> omega))) | ((with_reducible refine Below.setCell ?_ ?_ _); rotate_left; (first | omega | (simp <;> omega))) | (with_reducible refine below_drewN ?_ _) | (with_reducible refine Below.drew ?_) | ((with_reducible refine Below.step (by assumption) ?_ ?_); rotate_left; (first | omega | (simp <;> omega))))) H0.out)).mono ?_
    rintro e w' ⟨rfl, hb⟩; have hz := hb.size; (try simp at hz); have c0 := fun o => hb.cell (p := ⟨w.heap.size, o, none⟩) (by first | omega | (simp <;> omega)); have f0 := fun o => hb.frozen (p := ⟨w.heap.size, o, none⟩) (by first | omega | (simp <;> omega)); have z0 : w.heap.size < w'.heap.size := (by omega); have c1 := fun o => hb.cell (p := ⟨w.heap.size + 1, o, none⟩) (by first | omega | (simp <;> omega)); have f1 := fun o => hb.frozen (p := ⟨w.heap.size + 1, o, none⟩) (by first | omega | (simp <;> omega)); have z1 : w.heap.size + 1 < w'.heap.size := (by omega); have c2 := fun o => hb.cell (p := ⟨w.heap.size + 1 + 1, o, none⟩) (by first | omega | (simp <;> omega)); have f2 := fun o => hb.frozen (p := ⟨w.heap.size + 1 + 1, o, none⟩) (by first | omega | (simp <;> omega)); have z2 : w.heap.size + 1 + 1 < w'.heap.size := (by omega)
    go_wp2
    rw [HV.out]
    exact bodyPost_ret (v := .tuple #[vImage 0 0 (.slice none 0 0), .bool false]) (by simp [results, Try.results46, go_sem, *]) rfl (CropR.no (by repeat (first | (with_reducible exact Below.refl _ _) | (with_reducible assumption) | ((with_reducible refine Below.alloc ?_ ?_ _); rotate_left; (first | omega | (simp <;> omega))) | ((with_reducible refine Below.setCell ?_ ?_ _); rotate_left; (first | omega | (simp <;> omega))) | (with_reducible refine below_drewN ?_ _) | (with_reducible refine Below.drew ?_) | ((with_reducible refine Below.step (by assumption) ?_ ?_); rotate_left; (first | omega | (simp <;> omega))))))
  case true =>
    obtain ⟨⟨hW1, hW2⟩, ⟨hH1, hH2⟩, _, h144, _⟩ := validImg_len hv
    rcases inside_ways x y p q W H with ⟨h0, h1, h2, h3, h4⟩ | ⟨h0, h1⟩ | ⟨h0, h1, h2⟩ | ⟨h0, h1, h2, h3⟩ | ⟨h0, h1, h2, h3, h4⟩
    case inl =>
      obtain ⟨a, b, xn, yn, pn, qn, rfl, rfl, rfl, rfl, rfl, rfl, ⟨a1, a2⟩, ⟨b1, b2⟩, hxp, hyq, hp1, hq1, hln⟩ := crop_nat hv h0
      have HV : Hid (CropR (cropOk a b l xn yn pn qn) pn qn (cropTo l (a : Int).toNat (xn : Int).toNat (yn : Int).toNat (pn : Int).toNat (qn : Int).toNat) w = CropR true pn qn (cropTo l a xn yn pn qn) w) := by show _ = _; unfold cropOk; rw [hv, h0]; rfl
      obtain ⟨bA, oA, rfl, hbA, _⟩ := H0.out.open_.2.2 (by rw [hln]; exact Nat.mul_pos a1 b1)
      obtain ⟨hlc, hcm, _⟩ := H0.out.open_
      unfold maxLen at hcm
      have HLN := Lib.hid hln
      clear h0 hln
      go_enter Try.func46, Try.ntmps46
      go_wp2_with fail
      refine (S_IsValidImage _ (RS.step (by repeat (first | (with_reducible exact Below.refl _ _) | (with_reducible assumption) | ((with_reducible refine Below.alloc ?_ ?_ _); rotate_left; (first | omega | (simp <;> omega))) | ((with_reducible refine Below.setCell ?_ ?_ _); rotate_left; (first | omega | (simp <;> omega))) | (with_reducible refine below_drewN ?_ _) | (with_reducible refine Below.drew ?_) | ((with_reducible refine Below.step (by assumption) ?_ ?_); rotate_left; (first | omega | (simp <;> omega))))) H0.out)).mono ?_
      rintro e w1 ⟨rfl, hb1⟩
      have hz1 := hb1.size
      (try simp at hz1)
      have hB1 : Below w.heap.size w w1 := (by repeat (first | (with_reducible exact Below.refl _ _) | (with_reducible assumption) | ((with_reducible refine Below.alloc ?_ ?_ _); rotate_left; (first | omega | (simp <;> omega))) | ((with_reducible refine Below.setCell ?_ ?_ _); rotate_left; (first | omega | (simp <;> omega))) | (with_reducible refine below_drewN ?_ _) | (with_reducible refine Below.drew ?_) | ((with_reducible refine Below.step (by assumption) ?_ ?_); rotate_left; (first | omega | (simp <;> omega)))))
      obtain ⟨cc1, ff1⟩ := bcell (hb1.mono (show w.heap.size + 3 ≤ _ by first | omega | (simp <;> omega)))
      have ya : w.heap.size < w1.heap.size := by omega
      have yb : w.heap.size + 1 < w1.heap.size := by omega
      have yc : w.heap.size + 1 + 1 < w1.heap.size := by omega
      have k0 : w1.cell? ⟨w.heap.size, 0, none⟩ = some (.int .i64 a) := by go_simp
      have k1 : w1.cell? ⟨w.heap.size, 1, none⟩ = some (.int .i64 b) := by go_simp
      have k2 : w1.cell? ⟨w.heap.size, 2, none⟩ = some (.slice (some ⟨bA, oA, none⟩) l.length c) := by go_simp
      have k10 : w1.cell? ⟨w.heap.size + 1, 0, none⟩ = some (.int .i64 xn) := by go_simp
      have k11 : w1.cell? ⟨w.heap.size + 1, 1, none⟩ = some (.int .i64 yn) := by go_simp
      have k12 : w1.cell? ⟨w.heap.size + 1, 2, none⟩ = some (.int .i64 pn) := by go_simp
      have k13 : w1.cell? ⟨w.heap.size + 1, 3, none⟩ = some (.int .i64 qn) := by go_simp
      have kr : ∀ o, w1.frozen? ⟨w.heap.size + 1 + 1, o, none⟩ = false := by intro o; go_simp
      have kr0 : w1.cell? ⟨w.heap.size + 1 + 1, 0, none⟩ = some (.int .i64 0) := by go_simp
      have kr1 : w1.cell? ⟨w.heap.size + 1 + 1, 1, none⟩ = some (.int .i64 0) := by go_simp
      have kr2 : w1.cell? ⟨w.heap.size + 1 + 1, 2, none⟩ = some (.slice none 0 0) := by go_simp
      clear hb1 cc1 ff1
      go_wp2_with (go_at_call 87; refine (S_in _ _ _ _).mono ?_; rintro e w' ⟨rfl, rfl⟩)
      go_loopw [7] (fun t wr => ∃ (j : Nat) (C : Option Addr) (n q : Nat), yn ≤ j ∧ j ≤ yn + qn ∧ t = .int .i64 j ∧ Own wr w1.heap.size 44 [.int .i64 pn, .int .i64 qn, .slice C n q] ∧ Grow wr (w1.heap.size + 1) 3 1 C n q (ints (cropTo l a xn yn pn (j - yn))) ∧ Below w1.heap.size w1 wr) (fun t _ => yn + qn - (intOf t).toNat)
      case atStart => exact ⟨yn, none, 0, 0, Nat.le_refl _, by omega, rfl, Own.new w1 _ #[_, _, _], by rw [Nat.sub_self]; exact Grow.nil _ _ _ _, (Below.refl _ _).alloc (Nat.le_refl _) _⟩
      case round =>
        obtain ⟨j, C, n, q, j1, j2, rfl, ho, hg, hb⟩ := hrel
        have hsz := hb.size
        have e0 : wr.cell? ⟨w.heap.size, 0, none⟩ = some (.int .i64 a) := (hb.cell (by show _ < _; omega)).trans k0
        have e2 : wr.cell? ⟨w.heap.size, 2, none⟩ = some (.slice (some ⟨bA, oA, none⟩) l.length c) := (hb.cell (by show _ < _; omega)).trans k2
        have e10 : wr.cell? ⟨w.heap.size + 1, 0, none⟩ = some (.int .i64 xn) := (hb.cell (by show _ < _; omega)).trans k10
        have e11 : wr.cell? ⟨w.heap.size + 1, 1, none⟩ = some (.int .i64 yn) := (hb.cell (by show _ < _; omega)).trans k11
        have e12 : wr.cell? ⟨w.heap.size + 1, 2, none⟩ = some (.int .i64 pn) := (hb.cell (by show _ < _; omega)).trans k12
        have e13 : wr.cell? ⟨w.heap.size + 1, 3, none⟩ = some (.int .i64 qn) := (hb.cell (by show _ < _; omega)).trans k13
        have er0 : wr.cell? ⟨w.heap.size + 1 + 1, 0, none⟩ = some (.int .i64 0) := (hb.cell (by show _ < _; omega)).trans kr0
        have er1 : wr.cell? ⟨w.heap.size + 1 + 1, 1, none⟩ = some (.int .i64 0) := (hb.cell (by show _ < _; omega)).trans kr1
        have er2 : wr.cell? ⟨w.heap.size + 1 + 1, 2, none⟩ = some (.slice none 0 0) := (hb.cell (by show _ < _; omega)).trans kr2
        have erf : ∀ o, wr.frozen? ⟨w.heap.size + 1 + 1, o, none⟩ = false := fun o => (hb.frozen (by show _ < _; omega)).trans (kr o)
        have g0 : wr.cell? ⟨w1.heap.size, 0, none⟩ = some (.int .i64 pn) := ho.cell 0
        have g1 : wr.cell? ⟨w1.heap.size, 1, none⟩ = some (.int .i64 qn) := ho.cell 1
        have g2 : wr.cell? ⟨w1.heap.size, 2, none⟩ = some (.slice C n q) := ho.cell 2
        have gf : wr.frozen? ⟨w1.heap.size, 2, none⟩ = false := ho.frozen _
        have hgl := ho.lt
        have hnl : n ≤ 144 := by
          have h1 := hg.len
          have h2 := cropTo_len l a xn yn pn (j - yn)
          have h3 : (j - yn) * pn ≤ 12 * 12 := Nat.mul_le_mul (by omega) (by omega)
          simp at h1
          omega
        have HOW := Lib.hid ho
        have HG := Lib.hid hg
        have HB := Lib.hid hb
        have hbw : Below w.heap.size w wr := hB1.trans (hb.mono (by omega))
        have HR := Lib.hid (RS.step hbw H0.out)
        clear ho hg hb hbw
        by_cases hlt : j < yn + qn
        · have hre := row_end (a := a) hlt hyq
          rw [← HLN.out] at hre
          have hr : (j : Int) * (a : Int) = ((j * a : Nat) : Int) := by simp
          have HS := Lib.hid (cropTo_succ l a xn yn pn (j - yn))
          have HJ : Hid ((yn + (j - yn)) * a = j * a) := by show _ = _; rw [show yn + (j - yn) = j by omega]
          have hle : l.length ≤ 144 := by omega
          generalize j * a = r at *
          have w1' : IntKind.i64.wrap ((j : Int) * (a : Int)) = r := by rw [hr]; exact IntWalk.i64_in _ (by omega)
          have w2' : IntKind.i64.wrap ((r : Int) + (xn : Int)) = (r : Int) + (xn : Int) := IntWalk.i64_in _ (by omega)
          have w3' : IntKind.i64.wrap ((r : Int) + (xn : Int) + (pn : Int)) = (r : Int) + (xn : Int) + (pn : Int) := IntWalk.i64_in _ (by omega)
          have t1 : ((r : Int) + (xn : Int)).toNat = r + xn := by omega
          have t2 : ((r : Int) + (xn : Int) + (pn : Int)).toNat = r + xn + pn := by omega
          have s1 : (0 : Int) ≤ (r : Int) + (xn : Int) := by omega
          have s2 : (r : Int) + (xn : Int) ≤ (r : Int) + (xn : Int) + (pn : Int) := by omega
          have s3 : (r : Int) + (xn : Int) + (pn : Int) ≤ (c : Int) := by omega
          have hcur : cellOf wr.drew ⟨w1.heap.size, 2, none⟩ = .slice C n q := cellOf_is g2
          clear hr
          go_wp2_with fail
          go_still_tail 22, (by kernel_rfl)
          change wpList _ _ _ _ _ wr.drew
          generalize hwd : wr.drew = wd
          have HGd : Hid (Grow wd (w1.heap.size + 1) 3 1 C n q (ints (cropTo l a xn yn pn (j - yn)))) := by rw [← hwd]; exact HG.out.drew
          have hcr : ¬ c = r + xn := by omega
          have HRd : Hid (RS wd 1 (if c = r + xn then some ⟨bA, oA, none⟩ else some ⟨bA, oA + (r + xn), none⟩) pn (c - (r + xn)) (ints ((l.drop (r + xn)).take pn))) := by rw [← hwd, if_neg hcr]; exact RS.part1 HR.out (r + xn) pn (c - (r + xn)) (by omega) (by omega) (by unfold maxLen; omega)
          have HOd : Hid (Own wd w1.heap.size 44 [.int .i64 pn, .int .i64 qn, .slice C n q]) := by rw [← hwd]; exact HOW.out.drew
          have HBd : Hid (Below w1.heap.size w1 wd) := by rw [← hwd]; exact ⟨HB.out.os, HB.out.tape, HB.out.output, HB.out.size, HB.out.block⟩
          have hsd : w1.heap.size < wd.heap.size := HOd.out.lt
          clear hwd
          go_wp2_with (at_builtin; go_loud (refine wpList_app (by rfl) _ _ 22 (by rfl) (w1.heap.size + 1) 3 (.int .i64 0) 1 8 Try.underlying22 T.infoInt rfl (by decide) (xs := ints (cropTo l a xn yn pn (j - yn))) (by rfl) ?_ (ys := ints ((l.drop (r + xn)).take pn)) (by rfl) ?_ (ints_one _) ?_ ?_ ?_ ?_; (exact (by repeat (first | (with_reducible exact HGd.out) | (with_reducible refine Grow.alloc ?_ _) | (with_reducible refine Grow.drewN ?_ _) | (with_reducible refine Grow.drew ?_) | ((with_reducible refine Grow.far ?_ ?_ _); rotate_left; (first | omega | (simp <;> omega))) | (with_reducible refine Grow.step (by assumption) ?_)))); (exact HRd.out); (unfold maxLen; omega); (omega); (first | omega | (simp <;> omega)); rintro A' c' w2 gA; have hgx := HOd.out.below gA.2.1 (Nat.lt_succ_self _); have hgc := hgx.cell 2; have hgf := hgx.frozen 2; have hgs := hgx.lt; have HO2 := Lib.hid hgx; have HG2 := Lib.hid gA.1; have HB2 : Hid (Below w1.heap.size w1 w2) := Lib.hid (HBd.out.trans (gA.2.1.mono (Nat.le_succ _))); clear gA hgx))
          go_roundw
          case rel => exact ⟨j + 1, A', n + pn, c', by omega, by omega, by go_num, Own.set_ HO2.out 2 _, by rw [show j + 1 - yn = (j - yn) + 1 by omega, HS.out, HJ.out]; have hg2 := HG2.out; rw [← List.map_append] at hg2; exact hg2.far (by simp) _, HB2.out.setCell (Nat.le_refl _) _⟩
          case measure => simp [intOf]; omega
        · obtain rfl : j = yn + qn := by omega
          have hq : yn + qn - yn = qn := by omega
          rw [hq] at HG
          have hlen' : n = (cropTo l a xn yn pn qn).length := by have := HG.out.len; simpa using this.symm
          have HL' := Lib.hid hlen'
          clear hlen'
          go_wp2
          rw [HV.out]
          refine bodyPost_ret (v := .tuple #[vImage pn qn (.slice C n q), .bool true]) (by simp [results, Try.results46, go_sem, *]) rfl ?_
          refine ⟨C, q, by rw [HL'.out]; rfl, ?_, ?_, ?_⟩
          · show OwnS _ 1 C (cropTo l a xn yn pn qn).length q 3 (ints (cropTo l a xn yn pn qn))
            rw [← HL'.out]
            exact Grow.ownS (base := w1.heap.size + 1) (by repeat (first | (with_reducible exact HG.out) | (with_reducible refine Grow.alloc ?_ _) | (with_reducible refine Grow.drewN ?_ _) | (with_reducible refine Grow.drew ?_) | ((with_reducible refine Grow.far ?_ ?_ _); rotate_left; (first | omega | (simp <;> omega))) | (with_reducible refine Grow.step (by assumption) ?_)))
          · intro x hx
            have := HG.out.ge x hx
            omega
          · have hbx : Below w.heap.size w wr := hB1.trans (HB.out.mono (by omega))
            exact (by repeat (first | (with_reducible exact Below.refl _ _) | (with_reducible exact hbx) | (with_reducible assumption) | ((with_reducible refine Below.alloc ?_ ?_ _); rotate_left; (first | omega | (simp <;> omega))) | ((with_reducible refine Below.setCell ?_ ?_ _); rotate_left; (first | omega | (simp <;> omega))) | (with_reducible refine below_drewN ?_ _) | (with_reducible refine Below.drew ?_) | ((with_reducible refine Below.step (by assumption) ?_ ?_); rotate_left; (first | omega | (simp <;> omega)))))
    all_goals
      have HV : Hid (CropR (cropOk W H l x y p q) p q (cropTo l W.toNat x.toNat y.toNat p.toNat q.toNat) w = CropR false p q (cropTo l W.toNat x.toNat y.toNat p.toNat q.toNat) w) := by show _ = _; unfold cropOk; rw [hv, h0]; rfl
      have i1 : inB x 0 (W - 1) = true → 0 ≤ x ∧ x ≤ W - 1 := inB_true
      have i2 : inB y 0 (H - 1) = true → 0 ≤ y ∧ y ≤ H - 1 := inB_true
      try have i1 := i1 h1
      try have i2 := i2 h2
      clear h0
      go_enter Try.func46, Try.ntmps46
      go_wp2_with fail
      refine (S_IsValidImage _ (RS.step (by repeat (first | (with_reducible exact Below.refl _ _) | (with_reducible assumption) | ((with_reducible refine Below.alloc ?_ ?_ _); rotate_left; (first | omega | (simp <;> omega))) | ((with_reducible refine Below.setCell ?_ ?_ _); rotate_left; (first | omega | (simp <;> omega))) | (with_reducible refine below_drewN ?_ _) | (with_reducible refine Below.drew ?_) | ((with_reducible refine Below.step (by assumption) ?_ ?_); rotate_left; (first | omega | (simp <;> omega))))) H0.out)).mono ?_
      rintro e w' ⟨rfl, hb⟩; have hz := hb.size; (try simp at hz); have c0 := fun o => hb.cell (p := ⟨w.heap.size, o, none⟩) (by first | omega | (simp <;> omega)); have f0 := fun o => hb.frozen (p := ⟨w.heap.size, o, none⟩) (by first | omega | (simp <;> omega)); have z0 : w.heap.size < w'.heap.size := (by omega); have c1 := fun o => hb.cell (p := ⟨w.heap.size + 1, o, none⟩) (by first | omega | (simp <;> omega)); have f1 := fun o => hb.frozen (p := ⟨w.heap.size + 1, o, none⟩) (by first | omega | (simp <;> omega)); have z1 : w.heap.size + 1 < w'.heap.size := (by omega); have c2 := fun o => hb.cell (p := ⟨w.heap.size + 1 + 1, o, none⟩) (by first | omega | (simp <;> omega)); have f2 := fun o => hb.frozen (p := ⟨w.heap.size + 1 + 1, o, none⟩) (by first | omega | (simp <;> omega)); have z2 : w.heap.size + 1 + 1 < w'.heap.size := (by omega)
      go_wp2_with (go_at_call 87; refine (S_in _ _ _ _).mono ?_; rintro e w' ⟨rfl, rfl⟩)
      rw [HV.out]
      exact bodyPost_ret (v := .tuple #[vImage 0 0 (.slice none 0 0), .bool false]) (by simp [results, Try.results46, go_sem, *]) rfl (CropR.no (by repeat (first | (with_reducible exact Below.refl _ _) | (with_reducible assumption) | ((with_reducible refine Below.alloc ?_ ?_ _); rotate_left; (first | omega | (simp <;> omega))) | ((with_reducible refine Below.setCell ?_ ?_ _); rotate_left; (first | omega | (simp <;> omega))) | (with_reducible refine below_drewN ?_ _) | (with_reducible refine Below.drew ?_) | ((with_reducible refine Below.step (by assumption) ?_ ?_); rotate_left; (first | omega | (simp <;> omega))))))
end Go.Proofs.Ytndipkclmecpoaa
