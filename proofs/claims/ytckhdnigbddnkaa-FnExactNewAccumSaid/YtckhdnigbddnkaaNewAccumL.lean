/- The law FnExactNewAccum. -/
import Derived.Test.YtckhdnigbddnkaaNewRows
import Derived.Test.YtckhdnigbddnkaaMarkAccum
namespace Go.Proofs.Ytckhdnigbddnkaa
open Go.ChangeShapes Go.WideShapes Go.ChangeAt Go.RowKit
set_option linter.unusedVariables false
/-- What a maker of an Accum leaves, read as rows of its own. -/
def MadeAccum (ok : Bool) (p q : Int) (m : Nat) (l l' : List Int) (w : World) (r : Ending) (w' : World) : Prop :=
  ∃ A1 A2, r = .returned (.tuple #[vAccum p q (.slice A1 m m) (.slice A2 m m), .bool ok]) ∧ OwnS w' A1 m 3 (ints l) ∧ OwnS w' A2 m 3 (ints l') ∧
    (∀ x, x ∈ gOf A1 → w.heap.size ≤ x) ∧ (∀ x, x ∈ gOf A2 → w.heap.size ≤ x) ∧ (∀ x, x ∈ gOf A1 → x ∉ gOf A2) ∧ Below w.heap.size w w'
theorem OutNewAccum.rows {ok : Bool} {a b : Int} {n : Nat} {w : World} {r : Ending} {w' : World} (h : OutNewAccum ok a b n w r w') :
    MadeAccum ok (if ok then a else 0) (if ok then b else 0) (if ok then n else 0) (List.replicate (if ok then n else 0) 0) (List.replicate (if ok then n else 0) 0) w r w' := by
  obtain ⟨hb, ⟨rfl, rfl⟩ | ⟨rfl, g1, g2, rfl, h1, h2, k1, k2, hne⟩⟩ := h
  · exact ⟨none, none, rfl, OwnS.none_ _ _, OwnS.none_ _ _, fun x hx => absurd hx (by simp [gOf]), fun x hx => absurd hx (by simp [gOf]), fun x hx => absurd hx (by simp [gOf]), hb⟩
  · exact ⟨_, _, rfl, OwnS.some_ h1 (by simp), OwnS.some_ h2 (by simp), fun x hx => by simp [gOf] at hx; omega, fun x hx => by simp [gOf] at hx; omega, fun x hx hy => by simp [gOf] at hx hy; omega, hb⟩
theorem L_eqAccumM {x0 x1 : Int} {A0 A1 B0 B1 : Option Addr} {m : Nat} {l0 l1 : List Int} (w : World) (e0 : l0.length = m) (e1 : l1.length = m) (h0 : RS w 1 A0 m m (ints l0)) (h1 : RS w 1 A1 m m (ints l1)) (k0 : RS w 1 B0 m m (ints l0)) (k1 : RS w 1 B1 m m (ints l1)) :
    Calls Try.prog 45 #[(vAccum x0 x1 (.slice A0 m m) (.slice A1 m m)), (vAccum x0 x1 (.slice B0 m m) (.slice B1 m m))] w fun e w' => e = .returned (.bool true) ∧ Below w.heap.size w w' := by
  have e2 : l1.length = l0.length := by omega
  subst e0
  have := L_eqAccum (x0 := x0) (x1 := x1) (l0 := l0) (l1 := l1) (A0 := A0) (A1 := A1) (B0 := B0) (B1 := B1) (p0 := l0.length) (p1 := l0.length) (d0 := l0.length) (d1 := l0.length) w h0 (by rw [e2]; exact h1) k0 (by rw [e2]; exact k1)
  rwa [e2] at this
set_option maxHeartbeats 8000000 in
theorem L_ExNewAccum1 {a b c d : Int} {e : Bool} {f g : Int} {ok : Bool} {p q : Int} {m : Nat} {l l' : List Int} (w : World) (hm : m ≤ 144) (hl : l.length = m) (hl' : l'.length = m)
    (HS : Hid (∀ wx, Calls Try.prog 46 #[vCamera a b c d e f g] wx (MadeAccum ok p q m l l' wx))) (HI : Hid (∀ wx, Calls Try.prog 47 #[vCamera a b c d e f g] wx (MadeAccum ok p q m l l' wx))) :
    Calls Try.prog 12 #[vCamera a b c d e f g] w fun x w' => x = .returned (.bool true) ∧ Below w.heap.size w w' := by
  go_enter Try.func12, Try.ntmps12
  have HM := Lib.hid hm
  have t1 : ¬ (1 : Int) + m + m < 0 := by omega
  go_wp2_with fail
  refine (L_toCamera _ _ _ _ _ _ _ _).mono ?_
  rintro e w1 ⟨rfl, hb⟩
  have hz1 := hb.size
  simp at hz1
  refine with_box hb w.heap.size ?_ ?_
  · first | omega | (simp <;> omega)
  intro c01 f01 z01
  go_wp2_with fail
  refine (HS.out _).mono ?_
  rintro e w2 ⟨A1, A2, rfl, ho1, ho2, hk1, hk2, hd, hb⟩
  have hz2 := hb.size
  refine with_box hb w.heap.size ?_ ?_
  · first | omega | (simp <;> omega)
  intro c02 f02 z02
  have hlt1 := ho1.lt
  have hlt2 := ho2.lt
  have hB2 : Below w.heap.size w w2 := (by repeat (first | (with_reducible exact Below.refl _ _) | (with_reducible assumption) | ((with_reducible refine Below.alloc ?_ ?_ _); rotate_left; (first | omega | (simp <;> omega))) | ((with_reducible refine Below.setCell ?_ ?_ _); rotate_left; (first | omega | (simp <;> omega))) | (with_reducible refine below_drewN ?_ _) | (with_reducible refine Below.drew ?_) | ((with_reducible refine Below.step (by assumption) ?_ ?_); rotate_left; (first | omega | (simp <;> omega)))))
  go_wp2_with fail
  refine (L_toCamera _ _ _ _ _ _ _ _).mono ?_
  rintro e w3 ⟨rfl, hb⟩
  have hb3 := hb
  have hz3 := hb.size
  simp at hz3
  refine with_box hb w.heap.size ?_ ?_
  · first | omega | (simp <;> omega)
  intro c03 f03 z03
  refine with_box hb w2.heap.size ?_ ?_
  · first | omega | (simp <;> omega)
  intro c33 f33 z33
  go_wp2_with fail
  refine (HI.out _).mono ?_
  rintro e w4 ⟨B1, B2, rfl, hp1, hp2, hj1, hj2, hd', hb⟩
  have hb4 := hb
  have hz4 := hb.size
  refine with_box hb w.heap.size ?_ ?_
  · first | omega | (simp <;> omega)
  intro c04 f04 z04
  refine with_box hb w2.heap.size ?_ ?_
  · first | omega | (simp <;> omega)
  intro c34 f34 z34
  have hlt3 := hp1.lt
  have hlt4 := hp2.lt
  have hB4 : Below w.heap.size w w4 := (by repeat (first | (with_reducible exact Below.refl _ _) | (with_reducible assumption) | ((with_reducible refine Below.alloc ?_ ?_ _); rotate_left; (first | omega | (simp <;> omega))) | ((with_reducible refine Below.setCell ?_ ?_ _); rotate_left; (first | omega | (simp <;> omega))) | (with_reducible refine below_drewN ?_ _) | (with_reducible refine Below.drew ?_) | ((with_reducible refine Below.step (by assumption) ?_ ?_); rotate_left; (first | omega | (simp <;> omega)))))
  have ho1' := OwnS.step hb4 (OwnS.step hb3 (OwnS.alloc ho1 _))
  have ho2' := OwnS.step hb4 (OwnS.step hb3 (OwnS.alloc ho2 _))
  go_wp2_with fail
  refine (L_eqAccumM _ hl hl' (OwnS.rs (OwnS.alloc hp1 _) (by omega)) (OwnS.rs (OwnS.alloc hp2 _) (by omega)) (OwnS.rs (OwnS.alloc ho1' _) (by omega)) (OwnS.rs (OwnS.alloc ho2' _) (by omega))).mono ?_
  rintro e w5 ⟨rfl, hb⟩
  have hz5 := hb.size
  simp at hz5
  refine with_box hb w.heap.size ?_ ?_
  · first | omega | (simp <;> omega)
  intro c05 f05 z05
  refine with_box hb w2.heap.size ?_ ?_
  · first | omega | (simp <;> omega)
  intro c35 f35 z35
  refine with_box hb w4.heap.size ?_ ?_
  · first | omega | (simp <;> omega)
  intro c55 f55 z55
  have hp1' := OwnS.step hb (OwnS.alloc hp1 _)
  have hp2' := OwnS.step hb (OwnS.alloc hp2 _)
  have ho1'' := OwnS.step hb (OwnS.alloc ho1' _)
  have ho2'' := OwnS.step hb (OwnS.alloc ho2' _)
  have hB5 : Below w.heap.size w w5 := (by repeat (first | (with_reducible exact Below.refl _ _) | (with_reducible assumption) | ((with_reducible refine Below.alloc ?_ ?_ _); rotate_left; (first | omega | (simp <;> omega))) | ((with_reducible refine Below.setCell ?_ ?_ _); rotate_left; (first | omega | (simp <;> omega))) | (with_reducible refine below_drewN ?_ _) | (with_reducible refine Below.drew ?_) | ((with_reducible refine Below.step (by assumption) ?_ ?_); rotate_left; (first | omega | (simp <;> omega)))))
  go_wp2_with fail
  refine (L_markAccum _ hp1' hp2' (by omega) hd' (by omega) (by omega)).mono ?_
  rintro e w6 ⟨rfl, hq1, hq2, hO⟩
  have hz6 := hO.size
  obtain ⟨c06, f06⟩ := hO.cell w.heap.size (by omega) (fun hx => by rcases List.mem_append.1 hx with h | h; (have := hj1 _ h; omega); (have := hj2 _ h; omega))
  obtain ⟨c36, f36⟩ := hO.cell w2.heap.size (by omega) (fun hx => by rcases List.mem_append.1 hx with h | h; (have := hj1 _ h; omega); (have := hj2 _ h; omega))
  obtain ⟨c56, f56⟩ := hO.cell w4.heap.size (by omega) (fun hx => by rcases List.mem_append.1 hx with h | h; (have := hlt3 _ h; omega); (have := hlt4 _ h; omega))
  have z06 : w.heap.size < w6.heap.size := by omega
  have z36 : w2.heap.size < w6.heap.size := by omega
  have z56 : w4.heap.size < w6.heap.size := by omega
  have hr1 := OwnS.only ho1'' hO (fun x hx => ⟨by have := hlt1 x hx; omega, fun hy => by have := hlt1 x hx; rcases List.mem_append.1 hy with h | h; (have := hj1 _ h; omega); (have := hj2 _ h; omega)⟩)
  have hr2 := OwnS.only ho2'' hO (fun x hx => ⟨by have := hlt2 x hx; omega, fun hy => by have := hlt2 x hx; rcases List.mem_append.1 hy with h | h; (have := hj1 _ h; omega); (have := hj2 _ h; omega)⟩)
  have hB6 : Below w.heap.size w w6 := hB5.trans (hO.below (by omega) (fun x hx => by rcases List.mem_append.1 hx with h | h; (have := hj1 _ h; omega); (have := hj2 _ h; omega)))
  go_wp2_with fail
  refine (L_heldAccum _ hq1 hq2 (by omega) (by omega) (by omega)).mono ?_
  rintro e w7 ⟨rfl, hb⟩
  have hz7 := hb.size
  refine with_box hb w.heap.size ?_ ?_
  · first | omega | (simp <;> omega)
  intro c07 f07 z07
  refine with_box hb w2.heap.size ?_ ?_
  · first | omega | (simp <;> omega)
  intro c37 f37 z37
  refine with_box hb w4.heap.size ?_ ?_
  · first | omega | (simp <;> omega)
  intro c57 f57 z57
  have hq1' := OwnS.step hb hq1
  have hq2' := OwnS.step hb hq2
  have hr1' := OwnS.step hb hr1
  have hr2' := OwnS.step hb hr2
  go_wp2_with fail
  refine (L_toCamera _ _ _ _ _ _ _ _).mono ?_
  rintro e w8 ⟨rfl, hb⟩
  have hz8 := hb.size
  (try simp at hz8)
  refine with_box hb w.heap.size ?_ ?_
  · first | omega | (simp <;> omega)
  intro c08 f08 z08
  refine with_box hb w2.heap.size ?_ ?_
  · first | omega | (simp <;> omega)
  intro c38 f38 z38
  refine with_box hb w4.heap.size ?_ ?_
  · first | omega | (simp <;> omega)
  intro c58 f58 z58
  have hq1'' := OwnS.step hb hq1'
  have hq2'' := OwnS.step hb hq2'
  have hr1'' := OwnS.step hb hr1'
  have hr2'' := OwnS.step hb hr2'
  go_wp2_with fail
  refine (HI.out _).mono ?_
  rintro e w9 ⟨C1, C2, rfl, hs1, hs2, hi1, hi2, hd'', hb⟩
  have hz9 := hb.size
  refine with_box hb w.heap.size ?_ ?_
  · first | omega | (simp <;> omega)
  intro c09 f09 z09
  refine with_box hb w2.heap.size ?_ ?_
  · first | omega | (simp <;> omega)
  intro c39 f39 z39
  refine with_box hb w4.heap.size ?_ ?_
  · first | omega | (simp <;> omega)
  intro c59 f59 z59
  have hu1 := OwnS.step hb hq1''
  have hu2 := OwnS.step hb hq2''
  have hv1 := OwnS.step hb hr1''
  have hv2 := OwnS.step hb hr2''
  go_wp2_with fail
  refine (L_eqAccumM _ hl hl' (OwnS.rs (OwnS.alloc hs1 _) (by omega)) (OwnS.rs (OwnS.alloc hs2 _) (by omega)) (OwnS.rs (OwnS.alloc hv1 _) (by omega)) (OwnS.rs (OwnS.alloc hv2 _) (by omega))).mono ?_
  rintro e w10 ⟨rfl, hb⟩
  have hz10 := hb.size
  simp at hz10
  refine with_box hb w.heap.size ?_ ?_
  · first | omega | (simp <;> omega)
  intro c0a f0a z0a
  refine with_box hb w2.heap.size ?_ ?_
  · first | omega | (simp <;> omega)
  intro c3a f3a z3a
  refine with_box hb w4.heap.size ?_ ?_
  · first | omega | (simp <;> omega)
  intro c5a f5a z5a
  have hy1 := OwnS.step hb (OwnS.alloc hu1 _)
  have hy2 := OwnS.step hb (OwnS.alloc hu2 _)
  go_wp2_with fail
  refine (L_heldAccum _ hy1 hy2 (by omega) (by omega) (by omega)).mono ?_
  rintro e w11 ⟨rfl, hb⟩
  go_wp2
  go_ret
  exact ⟨rfl, (by repeat (first | (with_reducible exact Below.refl _ _) | (with_reducible assumption) | ((with_reducible refine Below.alloc ?_ ?_ _); rotate_left; (first | omega | (simp <;> omega))) | ((with_reducible refine Below.setCell ?_ ?_ _); rotate_left; (first | omega | (simp <;> omega))) | (with_reducible refine below_drewN ?_ _) | (with_reducible refine Below.drew ?_) | ((with_reducible refine Below.step (by assumption) ?_ ?_); rotate_left; (first | omega | (simp <;> omega)))))⟩
theorem L_ExNewAccum {a b c d : Int} {e : Bool} {f g : Int} (w : World) :
    Calls Try.prog 12 #[vCamera a b c d e f g] w fun x w' => x = .returned (.bool true) ∧ Below w.heap.size w w' := by
  obtain ⟨n, hn⟩ : ∃ n : Nat, (validCam a b c d f g = true → a * b = n ∧ n ≤ 144) ∧ n ≤ 144 := by
    by_cases hv : validCam a b c d f g = true
    · obtain ⟨n, h1, _, h2⟩ := area_nat (validCam_size hv)
      exact ⟨n, fun _ => ⟨h1, h2⟩, h2⟩
    · exact ⟨0, fun h => absurd h hv, by omega⟩
  have hm : (if validCam a b c d f g = true then n else 0) ≤ 144 := by split <;> omega
  exact L_ExNewAccum1 w hm (by simp) (by simp) (Lib.hid fun wx => (S_NewAccum wx hn.1).mono (fun _ _ h => h.rows)) (Lib.hid fun wx => (I_NewAccum wx hn.1).mono (fun _ _ h => h.rows))
theorem FnExactNewAccum_walk : LawWalk 12 [49] := by
  intro H enc W base args ds ps hA hval hlt
  obtain ⟨v0, rfl, h0⟩ := args1 hA hval
  obtain ⟨a, b, c, d, e, f, g, rfl, _⟩ := h0.camera
  exact L_ExNewAccum W
end Go.Proofs.Ytckhdnigbddnkaa
