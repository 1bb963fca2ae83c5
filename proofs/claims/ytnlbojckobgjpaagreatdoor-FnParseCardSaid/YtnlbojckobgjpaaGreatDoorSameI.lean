/- SameProgram, TokenTexts and Roots of the program, at two programs of the same data. -/
import Derived.Test.YtnlbojckobgjpaaGreatDoorSame
import Derived.Test.YtnlbojckobgjpaaGreatDoorProgA
import Derived.Test.YtnlbojckobgjpaaGreatDoorParM
import Derived.Test.YtnlbojckobgjpaaGreatDoorMgC
import Derived.Deep.RegionHeld3
set_option linter.unusedVariables false
set_option linter.unusedSimpArgs false
namespace Go.Proofs.YtnlbojckobgjpaaGreatDoor
open Go.RowKit Go.Lib
set_option maxRecDepth 100000
/-- A program that was parsed, as it is read. -/
theorem ProgM.in_ {w : World} {base : Nat} {NA : Option Addr} {nc : Nat} {ns : List ENode} {AA : Option Addr} {ac : Nat} {as_ : List EAssign} (h : ProgM w base NA nc ns AA ac as_) (hn : ∀ x ∈ ns, x.2.1.length ≤ maxLen) (ha : ∀ x ∈ as_, x.1.length ≤ maxLen) : ProgIn w NA nc AA ac (ns, as_) := by
  obtain ⟨h1, ⟨cs, hg, hc, hp⟩, h3, h4, h5⟩ := h
  obtain ⟨g1, g2, g3⟩ := hg.rs.open_
  obtain ⟨f1, f2, f3⟩ := h1.rs.open_
  refine ⟨⟨g1, g2, fun i hi => ?_⟩, ⟨f1, f2, fun i hi => ?_⟩⟩
  · obtain ⟨b, o, hA, hb, hcell⟩ := g3 (Nat.zero_lt_of_lt hi)
    obtain ⟨A, c, e, hr, _⟩ := hc i hi
    have hl : cs.length = ns.length * 4 := hg.len
    have hle : (i + 1) * 4 ≤ ns.length * 4 := Nat.mul_le_mul_right _ hi
    have key : ∀ j, j < 4 → w.cell? ⟨b, o + i * 4 + j, none⟩ = ((cs.drop (i * 4)).take 4)[j]? := fun j hj => by
      rw [Nat.add_assoc, hcell _ (by omega), List.getElem?_take_of_lt hj, List.getElem?_drop]
    rw [e] at key
    refine ⟨b, o, A, c, hA, hb, hn _ (List.getElem_mem hi), hr.rs, ?_, ?_, ?_, ?_⟩
    · have := key 0 (by omega); simpa using this
    · have := key 1 (by omega); simpa using this
    · have := key 2 (by omega); simpa using this
    · have := key 3 (by omega); simpa using this
  · obtain ⟨b, o, hA, hb, hcell⟩ := f3 (Nat.zero_lt_of_lt hi)
    obtain ⟨q0, q1⟩ := rAss_at hi
    refine ⟨b, o, hA, hb, ha _ (List.getElem_mem hi), ?_, ?_⟩
    · rw [hcell _ (by have : (i + 1) * 2 ≤ as_.length * 2 := Nat.mul_le_mul_right _ hi; omega), q0]
    · rw [Nat.add_assoc, hcell _ (by have : (i + 1) * 2 ≤ as_.length * 2 := Nat.mul_le_mul_right _ hi; omega), q1]
set_option maxHeartbeats 4000000 in
theorem I_sameNode {A A2 : Option Addr} {c c2 : Nat} {op num : Int} {name : List UInt8} {l : List Int} (w : World) (h : RS w 1 A l.length c (ints l)) (h2 : RS w 1 A2 l.length c2 (ints l)) :
    Calls Tryz.prog 25 #[.agg #[.int .i64 op, str name, .int .i64 num, .slice A l.length c], .agg #[.int .i64 op, str name, .int .i64 num, .slice A2 l.length c2]] w fun e w' => e = .returned (.bool true) ∧ Below w.heap.size w w' := by
  have HC : Hid (∀ wx, Below w.heap.size w wx → Calls Tryz.prog 57 #[.slice A l.length c, .slice A2 l.length c2] wx fun e w' => e = .returned (.bool true) ∧ Below wx.heap.size wx w') := Lib.hid (fun wx hb => by have := G_EqualInt wx (RS.step hb h) (RS.step hb h2); simpa using this)
  clear h h2
  go_enter Tryz.func25, Tryz.ntmps25
  go_wp2_with (first | (go_at_call 57; (with_reducible refine (HC.out _ (by repeat (first | (with_reducible exact Below.refl _ _) | (with_reducible assumption) | ((with_reducible refine Below.alloc ?_ ?_ _); rotate_left; (first | omega | (simp <;> omega))) | ((with_reducible refine Below.setCell ?_ ?_ _); rotate_left; (first | omega | (simp <;> omega))) | (with_reducible refine below_drewN ?_ _) | (with_reducible refine Below.drew ?_) | ((with_reducible refine Below.step (by assumption) ?_ ?_); rotate_left; (first | omega | (simp <;> omega)))))).mono ?_); rintro e w' ⟨rfl, hb⟩) | fail)
  go_ret
  exact ⟨rfl, (by repeat (first | (with_reducible exact Below.refl _ _) | (with_reducible assumption) | ((with_reducible refine Below.alloc ?_ ?_ _); rotate_left; (first | omega | (simp <;> omega))) | ((with_reducible refine Below.setCell ?_ ?_ _); rotate_left; (first | omega | (simp <;> omega))) | (with_reducible refine below_drewN ?_ _) | (with_reducible refine Below.drew ?_) | ((with_reducible refine Below.step (by assumption) ?_ ?_); rotate_left; (first | omega | (simp <;> omega)))))⟩
set_option maxHeartbeats 8000000 in
theorem I_sameNodes {A A2 : Option Addr} {c c2 : Nat} {l : List ENode} (w : World) (h : NodesIn w A c l) (h2 : NodesIn w A2 c2 l) :
    Calls Tryz.prog 24 #[.slice A l.length c, .slice A2 l.length c2, .func (.func 25) #[] #[]] w fun e w' => e = .returned (.bool true) ∧ Below w.heap.size w w' := by
  have H := Lib.hid h
  have H2 := Lib.hid h2
  have hc := h.2.1
  have hl := h.1
  unfold maxLen at hc
  have e2 : ((l.length : Int) != (l.length : Int)) = false := by simp
  clear h h2
  go_enter Tryz.func24, Tryz.ntmps24
  go_wp2_with fail
  go_loopw [17] (fun i wr => ∃ k : Nat, k ≤ l.length ∧ i = .int .i64 k ∧ Below w.heap.size w wr) (fun i _ => l.length - (RowKit.intOf i).toNat)
  case atStart => exact ⟨0, Nat.zero_le _, rfl, Below.refl _ _⟩
  case round =>
    obtain ⟨k, hk, rfl, hb⟩ := hrel
    obtain ⟨wo, rfl⟩ : ∃ wo, wo = wr := ⟨_, rfl⟩
    have HB := Lib.hid hb
    have hz := hb.size
    by_cases hlt : k < l.length
    · obtain ⟨b, o, A', c', rfl, hbl, _, hr, x0, x1, x2, x3⟩ := (H.out.step hb).2.2 k hlt
      obtain ⟨b2, o2, A2', c2', rfl, hbl2, _, hr2, y0, y1, y2, y3⟩ := (H2.out.step hb).2.2 k hlt
      obtain ⟨⟨op, name, num, args⟩, hx⟩ : ∃ x, l[k] = x := ⟨_, rfl⟩
      rw [hx] at hr hr2 x0 x1 x2 x3 y0 y1 y2 y3
      (try dsimp only at hr hr2 x0 x1 x2 x3 y0 y1 y2 y3)
      have HC : Hid (∀ wx, Below wo.heap.size wo wx → Calls Tryz.prog 25 #[.agg #[.int .i64 op, str name, .int .i64 num, .slice A' args.length c'], .agg #[.int .i64 op, str name, .int .i64 num, .slice A2' args.length c2']] wx fun e w' => e = .returned (.bool true) ∧ Below wx.heap.size wx w') := Lib.hid (fun wx hb => I_sameNode wx (RS.step hb hr) (RS.step hb hr2))
      have i0 : (0 : Int) ≤ k := by omega
      have i1 : (k : Int) < l.length := by omega
      have n1 : ¬ b2 = wo.heap.size := by omega
      have n2 : ¬ b = wo.heap.size := by omega
      clear hr hr2 hb hx
      go_wp2_with (first | (go_at_call 25; (with_reducible refine (HC.out _ (by repeat (first | (with_reducible exact Below.refl _ _) | (with_reducible assumption) | ((with_reducible refine Below.alloc ?_ ?_ _); rotate_left; (first | omega | (simp <;> omega))) | ((with_reducible refine Below.setCell ?_ ?_ _); rotate_left; (first | omega | (simp <;> omega))) | (with_reducible refine below_drewN ?_ _) | (with_reducible refine Below.drew ?_) | ((with_reducible refine Below.step (by assumption) ?_ ?_); rotate_left; (first | omega | (simp <;> omega)))))).mono ?_); rintro e w' ⟨rfl, hb⟩) | fail)
      go_roundw
      case rel => exact ⟨k + 1, by omega, by go_num, (by repeat (first | (with_reducible exact Below.refl _ _) | (with_reducible exact HB.out) | (with_reducible assumption) | ((with_reducible refine Below.alloc ?_ ?_ _); rotate_left; (first | omega | (simp <;> omega))) | ((with_reducible refine Below.setCell ?_ ?_ _); rotate_left; (first | omega | (simp <;> omega))) | (with_reducible refine below_drewN ?_ _) | (with_reducible refine Below.drew ?_) | ((with_reducible refine Below.step (by assumption) ?_ ?_); rotate_left; (first | omega | (simp <;> omega)))))⟩
      case measure => simp [RowKit.intOf] <;> omega
    · obtain rfl : k = l.length := by omega
      clear hb
      go_wp2_with fail
      go_ret
      exact ⟨rfl, HB.out⟩
set_option maxHeartbeats 8000000 in
theorem I_sameAssigns {A A2 : Option Addr} {c c2 : Nat} {l : List EAssign} (w : World) (h : AssignsIn w A c l) (h2 : AssignsIn w A2 c2 l) :
    Calls Tryz.prog 26 #[.slice A l.length c, .slice A2 l.length c2] w fun e w' => e = .returned (.bool true) ∧ Below w.heap.size w w' := by
  have H := Lib.hid h
  have H2 := Lib.hid h2
  have hc := h.2.1
  have hl := h.1
  unfold maxLen at hc
  have e2 : ((l.length : Int) != (l.length : Int)) = false := by simp
  clear h h2
  go_enter Tryz.func26, Tryz.ntmps26
  go_wp2_with fail
  go_loopw [5, 13] (fun _ i wr => ∃ k : Nat, k ≤ l.length ∧ i = .int .i64 k ∧ Below w.heap.size w wr) (fun _ i _ => l.length - (RowKit.intOf i).toNat)
  case atStart => exact ⟨0, Nat.zero_le _, rfl, Below.refl _ _⟩
  case round =>
    obtain ⟨k, hk, rfl, hb⟩ := hrel
    have HB := Lib.hid hb
    have hz := hb.size
    by_cases hlt : k < l.length
    · obtain ⟨b, o, rfl, hbl, _, x0, x1⟩ := (H.out.step hb).2.2 k hlt
      obtain ⟨b2, o2, rfl, hbl2, _, y0, y1⟩ := (H2.out.step hb).2.2 k hlt
      obtain ⟨⟨name, num⟩, hx⟩ : ∃ x, l[k] = x := ⟨_, rfl⟩
      rw [hx] at x0 x1 y0 y1
      (try dsimp only at x0 x1 y0 y1)
      have i0 : (0 : Int) ≤ k := by omega
      have i1 : (k : Int) < l.length := by omega
      clear hb hx
      go_wp2_with fail
      go_quiet (fail)
      go_wp2_with fail
      go_roundw
      case rel => exact ⟨k + 1, by omega, by go_num, (by repeat (first | (with_reducible exact Below.refl _ _) | (with_reducible exact HB.out) | (with_reducible assumption) | ((with_reducible refine Below.alloc ?_ ?_ _); rotate_left; (first | omega | (simp <;> omega))) | ((with_reducible refine Below.setCell ?_ ?_ _); rotate_left; (first | omega | (simp <;> omega))) | (with_reducible refine below_drewN ?_ _) | (with_reducible refine Below.drew ?_) | ((with_reducible refine Below.step (by assumption) ?_ ?_); rotate_left; (first | omega | (simp <;> omega)))))⟩
      case measure => simp [RowKit.intOf] <;> omega
    · obtain rfl : k = l.length := by omega
      clear hb
      go_wp2_with fail
      go_ret
      exact ⟨rfl, HB.out⟩
set_option maxHeartbeats 4000000 in
theorem I_SameProgram {A A2 B B2 : Option Addr} {c c2 d d2 : Nat} {p : EProg} (w : World) (h : ProgIn w A c A2 c2 p) (h2 : ProgIn w B d B2 d2 p) :
    Calls Tryz.prog 9 #[vProg A p.1.length c A2 p.2.length c2, vProg B p.1.length d B2 p.2.length d2] w fun e w' => e = .returned (.bool true) ∧ Below w.heap.size w w' := by
  have HN : Hid (∀ wx, Below w.heap.size w wx → Calls Tryz.prog 24 #[.slice A p.1.length c, .slice B p.1.length d, .func (.func 25) #[] #[]] wx fun e w' => e = .returned (.bool true) ∧ Below wx.heap.size wx w') := Lib.hid (fun wx hb => I_sameNodes wx (h.1.step hb) (h2.1.step hb))
  have HA : Hid (∀ wx, Below w.heap.size w wx → Calls Tryz.prog 26 #[.slice A2 p.2.length c2, .slice B2 p.2.length d2] wx fun e w' => e = .returned (.bool true) ∧ Below wx.heap.size wx w') := Lib.hid (fun wx hb => I_sameAssigns wx (h.2.step hb) (h2.2.step hb))
  clear h h2
  go_enter Tryz.func9, Tryz.ntmps9
  go_wp2_with (first | (go_at_call 24; (with_reducible refine (HN.out _ (by repeat (first | (with_reducible exact Below.refl _ _) | (with_reducible assumption) | ((with_reducible refine Below.alloc ?_ ?_ _); rotate_left; (first | omega | (simp <;> omega))) | ((with_reducible refine Below.setCell ?_ ?_ _); rotate_left; (first | omega | (simp <;> omega))) | (with_reducible refine below_drewN ?_ _) | (with_reducible refine Below.drew ?_) | ((with_reducible refine Below.step (by assumption) ?_ ?_); rotate_left; (first | omega | (simp <;> omega)))))).mono ?_); rintro e w' ⟨rfl, hb⟩; have hz := hb.size; (try simp at hz); have c0 := fun o => hb.cell (p := ⟨w.heap.size, o, none⟩) (by first | omega | (simp <;> omega)); have f0 := fun o => hb.frozen (p := ⟨w.heap.size, o, none⟩) (by first | omega | (simp <;> omega)); have z0 : w.heap.size < w'.heap.size := (by omega); have c1 := fun o => hb.cell (p := ⟨w.heap.size + 1, o, none⟩) (by first | omega | (simp <;> omega)); have f1 := fun o => hb.frozen (p := ⟨w.heap.size + 1, o, none⟩) (by first | omega | (simp <;> omega)); have z1 : w.heap.size + 1 < w'.heap.size := (by omega)) | (go_at_call 26; (with_reducible refine (HA.out _ (by repeat (first | (with_reducible exact Below.refl _ _) | (with_reducible assumption) | ((with_reducible refine Below.alloc ?_ ?_ _); rotate_left; (first | omega | (simp <;> omega))) | ((with_reducible refine Below.setCell ?_ ?_ _); rotate_left; (first | omega | (simp <;> omega))) | (with_reducible refine below_drewN ?_ _) | (with_reducible refine Below.drew ?_) | ((with_reducible refine Below.step (by assumption) ?_ ?_); rotate_left; (first | omega | (simp <;> omega)))))).mono ?_); rintro e w' ⟨rfl, hb⟩) | fail)
  go_ret
  exact ⟨rfl, (by repeat (first | (with_reducible exact Below.refl _ _) | (with_reducible assumption) | ((with_reducible refine Below.alloc ?_ ?_ _); rotate_left; (first | omega | (simp <;> omega))) | ((with_reducible refine Below.setCell ?_ ?_ _); rotate_left; (first | omega | (simp <;> omega))) | (with_reducible refine below_drewN ?_ _) | (with_reducible refine Below.drew ?_) | ((with_reducible refine Below.step (by assumption) ?_ ?_); rotate_left; (first | omega | (simp <;> omega)))))⟩
end Go.Proofs.YtnlbojckobgjpaaGreatDoor
