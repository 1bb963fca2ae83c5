/- The law FnExactParse: its walk. -/
import Derived.Test.YtnlbojckobgjpaaDoorParHd
import Derived.Test.YtnlbojckobgjpaaDoorParA
import Derived.Test.YtnlbojckobgjpaaDoorPriP
import Derived.Test.YtnlbojckobgjpaaDoorLawH
namespace Go.Proofs.YtnlbojckobgjpaaDoor
open Go.ChangeShapes Go.WideShapes Go.ChangeAt Go.RowKit Go.Lib
set_option linter.unusedVariables false
set_option linter.unusedSimpArgs false
set_option maxRecDepth 100000
theorem ProgM.step {w w' : World} {base : Nat} {NA : Option Addr} {nc : Nat} {ns : List ENode} {AA : Option Addr} {ac : Nat} {as_ : List EAssign} (h : ProgM w base NA nc ns AA ac as_) (q : Below w.heap.size w w') : ProgM w' base NA nc ns AA ac as_ := by
  obtain ⟨a1, ⟨cs, a2, a3, a4⟩, a5, a6, a7⟩ := h
  exact ⟨a1.step q, ⟨cs, a2.step q, a3.keep (fun y _ hl => q.block y hl), a4⟩, a5, a6, a7⟩
set_option maxHeartbeats 4000000 in
theorem L_ExParse (src : List UInt8) (w : World) (hE : ErrT w) :
    Calls Tryd.prog 3 #[str src] w fun e w' => e = .returned (.bool true) ∧ Below w.heap.size w w' := by
  rcases Nat.lt_or_ge 1048576 src.length with hbig | hs
  · have hbig' : (1048576 : Int) < (src.length : Int) := by omega
    go_enter Tryd.func3, Tryd.ntmps3
    go_wp2_with fail
    go_ret
    exact ⟨rfl, (by repeat (first | (with_reducible exact Below.refl _ _) | (with_reducible assumption) | ((with_reducible refine Below.alloc ?_ ?_ _); rotate_left; (first | omega | (simp <;> omega))) | ((with_reducible refine Below.setCell ?_ ?_ _); rotate_left; (first | omega | (simp <;> omega))) | (with_reducible refine below_drewN ?_ _) | (with_reducible refine Below.drew ?_) | ((with_reducible refine Below.step (by assumption) ?_ ?_); rotate_left; (first | omega | (simp <;> omega)))))⟩
  have hns : ¬ (1048576 : Int) < (src.length : Int) := by omega
  have HSM := Lib.hid (parF_small src)
  have HS : Hid (∀ wx, Calls Tryd.prog 4 #[str src] wx fun e w' => ∃ NA nc AA ac, e = .returned (.tuple #[.agg #[.slice NA (parF src).1.1.length nc, .slice AA (parF src).1.2.length ac], .int .i64 (parF src).2]) ∧ ProgM w' wx.heap.size NA nc (parF src).1.1 AA ac (parF src).1.2 ∧ Below wx.heap.size wx w') := Lib.hid (fun wx => S_Parse wx hs)
  have HI : Hid (∀ wx, Below w.heap.size w wx → Calls Tryd.prog 5 #[str src] wx fun e w' => ∃ NA nc AA ac, e = .returned (.tuple #[.agg #[.slice NA (parF src).1.1.length nc, .slice AA (parF src).1.2.length ac], .int .i64 (parF src).2]) ∧ ProgM w' wx.heap.size NA nc (parF src).1.1 AA ac (parF src).1.2 ∧ Below wx.heap.size wx w') := Lib.hid (fun wx hb => I_Parse wx hs (hE.step hb))
  generalize (parF src).1.1 = ns at *
  generalize (parF src).1.2 = as_ at *
  generalize (parF src).2 = o at *
  have hoo : (o != o) = false := by simp
  clear hE
  go_enter Tryd.func3, Tryd.ntmps3
  go_wp2_with fail
  (with_reducible refine (HS.out _).mono ?_)
  rintro e w1 ⟨NA1, nc1, AA1, ac1, rfl, hp1, hb1⟩
  have hz1 := hb1.size
  have HB1 := Lib.hid hb1
  have HP1 := Lib.hid hp1
  clear hp1 hb1
  go_wp2_with fail
  (with_reducible refine (HI.out _ (by repeat (first | (with_reducible exact Below.refl _ _) | (with_reducible exact HB1.out) | (with_reducible assumption) | ((with_reducible refine Below.alloc ?_ ?_ _); rotate_left; (first | omega | (simp <;> omega))) | ((with_reducible refine Below.setCell ?_ ?_ _); rotate_left; (first | omega | (simp <;> omega))) | (with_reducible refine below_drewN ?_ _) | (with_reducible refine Below.drew ?_) | ((with_reducible refine Below.step (by assumption) ?_ ?_); rotate_left; (first | omega | (simp <;> omega)))))).mono ?_)
  rintro e w2 ⟨NA2, nc2, AA2, ac2, rfl, hp2, hb2⟩
  have hz2 := hb2.size
  rw [World.size_alloc] at hp2
  (try simp at hz2)
  have HX2 : Hid (Own w2 w1.heap.size 25 [.slice NA1 ns.length nc1, .slice AA1 as_.length ac1]) := Lib.hid (Own.step hb2 (Own.new w1 25 #[_, _]))
  have HB2 : Hid (Below w.heap.size w w2) := Lib.hid (Below.step hb2 (by repeat (first | (with_reducible exact Below.refl _ _) | (with_reducible exact HB1.out) | (with_reducible assumption) | ((with_reducible refine Below.alloc ?_ ?_ _); rotate_left; (first | omega | (simp <;> omega))) | ((with_reducible refine Below.setCell ?_ ?_ _); rotate_left; (first | omega | (simp <;> omega))) | (with_reducible refine below_drewN ?_ _) | (with_reducible refine Below.drew ?_) | ((with_reducible refine Below.step (by assumption) ?_ ?_); rotate_left; (first | omega | (simp <;> omega))))) (by first | omega | (simp <;> omega)))
  have HQ2 : Hid (ProgM w2 w.heap.size NA1 nc1 ns AA1 ac1 as_) := Lib.hid ((HP1.out.step ((Below.refl _ _).alloc (Nat.le_refl _) _)).step hb2)
  have HB12 : Hid (Below w1.heap.size w1 w2) := Lib.hid (Below.step hb2 (by repeat (first | (with_reducible exact Below.refl _ _) | (with_reducible assumption) | ((with_reducible refine Below.alloc ?_ ?_ _); rotate_left; (first | omega | (simp <;> omega))) | ((with_reducible refine Below.setCell ?_ ?_ _); rotate_left; (first | omega | (simp <;> omega))) | (with_reducible refine below_drewN ?_ _) | (with_reducible refine Below.drew ?_) | ((with_reducible refine Below.step (by assumption) ?_ ?_); rotate_left; (first | omega | (simp <;> omega))))) (by first | omega | (simp <;> omega)))
  have HP2 := Lib.hid hp2
  have hn := hp2.2.2.2.1
  have hl := hp2.2.2.2.2
  clear hp2 hb2 HS
  have d0 := HX2.out.cell 0
  have d1 := HX2.out.cell 1
  have dl := HX2.out.lt
  (try dsimp only [List.getElem?_cons_succ, List.getElem?_cons_zero] at d0 d1)
  have HEQ : Hid (∀ wx, Below w2.heap.size w2 wx → Calls Tryd.prog 6 #[.agg #[.slice NA2 ns.length nc2, .slice AA2 as_.length ac2], .agg #[.slice NA1 ns.length nc1, .slice AA1 as_.length ac1]] wx fun e w' => e = .returned (.bool true) ∧ Below wx.heap.size wx w') := Lib.hid (fun wx q => L_eqProgramF wx ((HP2.out.step q).rows.1) ((HP2.out.step q).rows.2) ((HQ2.out.step q).rows.1) ((HQ2.out.step q).rows.2))
  go_wp2_with fail
  (with_reducible refine (HEQ.out _ (by repeat (first | (with_reducible exact Below.refl _ _) | (with_reducible assumption) | ((with_reducible refine Below.alloc ?_ ?_ _); rotate_left; (first | omega | (simp <;> omega))) | ((with_reducible refine Below.setCell ?_ ?_ _); rotate_left; (first | omega | (simp <;> omega))) | (with_reducible refine below_drewN ?_ _) | (with_reducible refine Below.drew ?_) | ((with_reducible refine Below.step (by assumption) ?_ ?_); rotate_left; (first | omega | (simp <;> omega)))))).mono ?_)
  rintro e w3 ⟨rfl, hb3⟩
  have hz3 := hb3.size
  (try simp at hz3)
  have HX3 : Hid (Own w3 w1.heap.size 25 [.slice NA1 ns.length nc1, .slice AA1 as_.length ac1]) := Lib.hid (Own.step hb3 (HX2.out.alloc _))
  have HY3 : Hid (Own w3 w2.heap.size 25 [.slice NA2 ns.length nc2, .slice AA2 as_.length ac2]) := Lib.hid (Own.step hb3 (Own.new w2 25 #[_, _]))
  have HB3 : Hid (Below w2.heap.size w2 w3) := Lib.hid (Below.step hb3 (by repeat (first | (with_reducible exact Below.refl _ _) | (with_reducible assumption) | ((with_reducible refine Below.alloc ?_ ?_ _); rotate_left; (first | omega | (simp <;> omega))) | ((with_reducible refine Below.setCell ?_ ?_ _); rotate_left; (first | omega | (simp <;> omega))) | (with_reducible refine below_drewN ?_ _) | (with_reducible refine Below.drew ?_) | ((with_reducible refine Below.step (by assumption) ?_ ?_); rotate_left; (first | omega | (simp <;> omega))))) (by first | omega | (simp <;> omega)))
  clear hb3 d0 d1 HEQ
  have x0 := HX3.out.cell 0
  have x1 := HX3.out.cell 1
  have xl := HX3.out.lt
  have y0 := HY3.out.cell 0
  have y1 := HY3.out.cell 1
  have yl := HY3.out.lt
  (try dsimp only [List.getElem?_cons_succ, List.getElem?_cons_zero] at x0 x1 y0 y1)
  have HMK : Hid (Calls Tryd.prog 7 #[.agg #[.slice NA2 ns.length nc2, .slice AA2 as_.length ac2], .int .i64 1] w3 fun e w' => e = .returned (.int .i64 ((1 + szN ns + 2 * as_.length : Nat) : Int)) ∧ ProgM w' (w1.heap.size + 1) NA2 nc2 (mkN 1 ns) AA2 ac2 (mkA (1 + szN ns) as_) ∧ Below (w1.heap.size + 1) w3 w' ∧ (∀ y, w2.heap.size ≤ y → y < w3.heap.size → w'.heap[y]? = w3.heap[y]?)) := Lib.hid (L_markProgram (hi := w2.heap.size) w3 (HP2.out.step HB3.out) (HP2.out.lowN.step HB3.out (Nat.le_refl _)) (fun y hy => HP2.out.1.lt y hy) HB3.out.size (by omega) HSM.out)
  go_wp2_with fail
  (with_reducible refine HMK.out.mono ?_)
  rintro e w4 ⟨rfl, hp4, hb4, hm4⟩
  have hz4 := hb4.size
  have HX4 : Hid (Own w4 w1.heap.size 25 [.slice NA1 ns.length nc1, .slice AA1 as_.length ac1]) := Lib.hid ((hb4.block w1.heap.size (by omega)).trans HX3.out)
  have HY4 : Hid (Own w4 w2.heap.size 25 [.slice NA2 ns.length nc2, .slice AA2 as_.length ac2]) := Lib.hid ((hm4 w2.heap.size (Nat.le_refl _) (by omega)).trans HY3.out)
  have HP4 := Lib.hid hp4
  have HB4 : Hid (Below w.heap.size w w4) := Lib.hid ((HB2.out.trans (HB3.out.mono HB2.out.size)).trans (hb4.mono (by omega)))
  have HQ4 : Hid (ProgM w4 w.heap.size NA1 nc1 ns AA1 ac1 as_) := Lib.hid (HP1.out.step ((HB12.out.trans (HB3.out.mono HB12.out.size)).trans (hb4.mono (by omega))))
  obtain ⟨S, hS⟩ : ∃ S, 1 + szN ns + 2 * as_.length = S := ⟨_, rfl⟩
  rw [hS]
  have HHD : Hid (∀ wx, Below w4.heap.size w4 wx → Calls Tryd.prog 8 #[.agg #[.slice NA2 ns.length nc2, .slice AA2 as_.length ac2], .int .i64 1] wx fun e w' => e = .returned (.int .i64 S) ∧ Below wx.heap.size wx w') := Lib.hid (fun wx q => by have := L_heldProgram wx (HP4.out.step q) HSM.out; rw [hS] at this; exact this)
  have hSS : ((S : Int) != (S : Int)) = false := by simp
  have hSn : ¬ (S : Int) < 0 := by omega
  clear hS hb4 hm4 hp4 x0 x1 xl y0 y1 yl HMK
  have x0 := HX4.out.cell 0
  have x1 := HX4.out.cell 1
  have xl := HX4.out.lt
  have y0 := HY4.out.cell 0
  have y1 := HY4.out.cell 1
  have yl := HY4.out.lt
  (try dsimp only [List.getElem?_cons_succ, List.getElem?_cons_zero] at x0 x1 y0 y1)
  go_wp2_with fail
  (with_reducible refine (HHD.out _ (Below.refl _ _)).mono ?_)
  rintro e w5 ⟨rfl, hb5⟩
  have HB5 := Lib.hid hb5
  have hz5 := hb5.size
  have HX5 := Lib.hid (Own.step hb5 HX4.out)
  have HY5 := Lib.hid (Own.step hb5 HY4.out)
  clear hb5 x0 x1 xl y0 y1 yl
  go_wp2_with fail
  (with_reducible refine (HI.out _ (Below.step HB5.out HB4.out HB4.out.size)).mono ?_)
  rintro e w6 ⟨NA3, nc3, AA3, ac3, rfl, hp6, hb6⟩
  have hz6 := hb6.size
  have HB6 : Hid (Below w4.heap.size w4 w6) := Lib.hid (Below.step hb6 HB5.out HB5.out.size)
  have HX6 := Lib.hid (Own.step hb6 HX5.out)
  have HY6 := Lib.hid (Own.step hb6 HY5.out)
  have HP6 := Lib.hid hp6
  clear hp6 hb6 HI
  have x0 := HX6.out.cell 0
  have x1 := HX6.out.cell 1
  have xl := HX6.out.lt
  (try dsimp only [List.getElem?_cons_succ, List.getElem?_cons_zero] at x0 x1)
  have HEQ : Hid (∀ wx, Below w6.heap.size w6 wx → Calls Tryd.prog 6 #[.agg #[.slice NA3 ns.length nc3, .slice AA3 as_.length ac3], .agg #[.slice NA1 ns.length nc1, .slice AA1 as_.length ac1]] wx fun e w' => e = .returned (.bool true) ∧ Below wx.heap.size wx w') := Lib.hid (fun wx q => L_eqProgramF wx ((HP6.out.step q).rows.1) ((HP6.out.step q).rows.2) (((HQ4.out.step HB6.out).step q).rows.1) (((HQ4.out.step HB6.out).step q).rows.2))
  go_wp2_with fail
  (with_reducible refine (HEQ.out _ (by repeat (first | (with_reducible exact Below.refl _ _) | (with_reducible assumption) | ((with_reducible refine Below.alloc ?_ ?_ _); rotate_left; (first | omega | (simp <;> omega))) | ((with_reducible refine Below.setCell ?_ ?_ _); rotate_left; (first | omega | (simp <;> omega))) | (with_reducible refine below_drewN ?_ _) | (with_reducible refine Below.drew ?_) | ((with_reducible refine Below.step (by assumption) ?_ ?_); rotate_left; (first | omega | (simp <;> omega)))))).mono ?_)
  rintro e w7 ⟨rfl, hb7⟩
  have hz7 := hb7.size
  (try simp at hz7)
  have HB7 : Hid (Below w4.heap.size w4 w7) := Lib.hid (Below.step hb7 (by repeat (first | (with_reducible exact Below.refl _ _) | (with_reducible exact HB6.out) | (with_reducible assumption) | ((with_reducible refine Below.alloc ?_ ?_ _); rotate_left; (first | omega | (simp <;> omega))) | ((with_reducible refine Below.setCell ?_ ?_ _); rotate_left; (first | omega | (simp <;> omega))) | (with_reducible refine below_drewN ?_ _) | (with_reducible refine Below.drew ?_) | ((with_reducible refine Below.step (by assumption) ?_ ?_); rotate_left; (first | omega | (simp <;> omega))))) (by first | omega | (simp <;> omega)))
  have HY7 := Lib.hid (Own.step hb7 (HY6.out.alloc _))
  clear hb7 x0 x1 xl
  have y0 := HY7.out.cell 0
  have y1 := HY7.out.cell 1
  have yl := HY7.out.lt
  (try dsimp only [List.getElem?_cons_succ, List.getElem?_cons_zero] at y0 y1)
  go_wp2_with fail
  (with_reducible refine (HHD.out _ HB7.out).mono ?_)
  rintro e w8 ⟨rfl, hb8⟩
  have HB8 := Lib.hid (Below.step hb8 HB7.out HB7.out.size)
  clear hb8
  go_wp2_with fail
  go_ret
  exact ⟨rfl, HB4.out.trans (HB8.out.mono HB4.out.size)⟩
def fnExactParseLaid : List (String × DataW Unit) := [("errors.errorType", Rows.laid_errors_errorType)]
theorem FnExactParse_walk : LawWalkH fnExactParseLaid 3 [9] := by
  intro H enc W base args ds ps hA hval hlt hsz hL hsh
  obtain ⟨v0, rfl, a0⟩ := args1 hA hval
  obtain ⟨sy0, rfl, hsy0⟩ := a0.string Tryd.underlying9
  exact L_ExParse sy0.data.toList W (handle_of_laid hL)
end Go.Proofs.YtnlbojckobgjpaaDoor
