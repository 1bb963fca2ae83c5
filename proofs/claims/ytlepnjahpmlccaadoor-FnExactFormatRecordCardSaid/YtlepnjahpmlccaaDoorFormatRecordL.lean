/- MADE BY PROGRAM (exlaw.py). The law FnExactFormatRecord. -/
import Derived.Test.YtlepnjahpmlccaaDoorTxtL
import Derived.Test.YtlepnjahpmlccaaDoorLaw
import Derived.Test.YtlepnjahpmlccaaDoorOpen
import Derived.Deep.RegionHeld3
namespace Go.Proofs.YtlepnjahpmlccaaDoor
open Go.ChangeShapes Go.WideShapes Go.ChangeAt Go.RowKit
set_option linter.unusedVariables false
set_option maxRecDepth 100000
set_option maxHeartbeats 2000000 in
theorem L_ExFormatRecord (y0a : Int) (A0b : Option Addr) (p0b : Nat) (l0b : List Int) (w : World) (h0b : RS w 1 A0b l0b.length p0b (ints l0b)) (ht : Tab w) :
    Calls Tryd.prog 5 #[(vLogged y0a (.slice A0b l0b.length p0b))] w fun e w' => e = .returned (.bool true) ∧ Below w.heap.size w w' := by
  have HT := Lib.hid ht
  clear ht
  have mh0b := h0b.len
  rcases szF_or (1048576) l0b.length with hz0 | ⟨hz0, hy0, sh0b⟩
  · go_enter Tryd.func5, Tryd.ntmps5
    go_wp2_with fail
    refine (L_szLogged _ (by first | omega | assumption) (by first | omega | assumption) (by assumption)).mono ?_
    rintro e w' ⟨rfl, hb⟩; have hz := hb.size; (try simp at hz); have c0e := fun o => hb.cell (p := ⟨w.heap.size, o, none⟩) (by first | omega | (simp <;> omega)); have z0e : w.heap.size < w'.heap.size := (by omega)
    go_wp2
    go_ret
    exact ⟨rfl, (by repeat (first | (with_reducible exact Below.refl _ _) | (with_reducible assumption) | ((with_reducible refine Below.alloc ?_ ?_ _); rotate_left; (first | omega | (simp <;> omega))) | ((with_reducible refine Below.setCell ?_ ?_ _); rotate_left; (first | omega | (simp <;> omega))) | (with_reducible refine below_drewN ?_ _) | (with_reducible refine Below.drew ?_) | ((with_reducible refine Below.step (by assumption) ?_ ?_); rotate_left; (first | omega | (simp <;> omega)))))⟩
  have th0b : l0b.length ≤ 1048576 := by omega
  go_enter Tryd.func5, Tryd.ntmps5
  go_wp2_with fail
  refine (L_szLogged _ (by first | omega | assumption) (by first | omega | assumption) (by assumption)).mono ?_
  rintro e w' ⟨rfl, hb⟩; have hz := hb.size; (try simp at hz); have c01 := fun o => hb.cell (p := ⟨w.heap.size, o, none⟩) (by first | omega | (simp <;> omega)); have z01 : w.heap.size < w'.heap.size := (by omega)
  obtain ⟨w1, rfl⟩ : ∃ w1, w1 = w' := ⟨_, rfl⟩
  go_wp2_with fail
  refine (L_toLogged _ (by assumption) (by first | (with_reducible assumption) | ((with_reducible refine RS.step ?_ (by assumption)); repeat (first | (with_reducible exact Below.refl _ _) | (with_reducible assumption) | ((with_reducible refine Below.alloc ?_ ?_ _); rotate_left; (first | omega | (simp <;> omega))) | ((with_reducible refine Below.setCell ?_ ?_ _); rotate_left; (first | omega | (simp <;> omega))) | (with_reducible refine below_drewN ?_ _) | (with_reducible refine Below.drew ?_) | ((with_reducible refine Below.step (by assumption) ?_ ?_); rotate_left; (first | omega | (simp <;> omega))))))).mono ?_
  rintro e w' ⟨g2a, rfl, ho2a, hr2a, hg2, hb⟩; have hz := hb.size; (try simp at hz); have c02 := fun o => hb.cell (p := ⟨w.heap.size, o, none⟩) (by first | omega | (simp <;> omega)); have z02 : w.heap.size < w'.heap.size := (by omega)
  obtain ⟨w2, rfl⟩ : ∃ w2, w2 = w' := ⟨_, rfl⟩
  go_wp2_with fail
  refine (S_FormatRecord _ (by first | (with_reducible assumption) | ((with_reducible refine RS.step ?_ (by assumption)); repeat (first | (with_reducible exact Below.refl _ _) | (with_reducible assumption) | ((with_reducible refine Below.alloc ?_ ?_ _); rotate_left; (first | omega | (simp <;> omega))) | ((with_reducible refine Below.setCell ?_ ?_ _); rotate_left; (first | omega | (simp <;> omega))) | (with_reducible refine below_drewN ?_ _) | (with_reducible refine Below.drew ?_) | ((with_reducible refine Below.step (by assumption) ?_ ?_); rotate_left; (first | omega | (simp <;> omega))))))).mono ?_
  rintro e w' ⟨rfl, hb⟩; have hz := hb.size; (try simp at hz); have c03 := fun o => hb.cell (p := ⟨w.heap.size, o, none⟩) (by first | omega | (simp <;> omega)); have z03 : w.heap.size < w'.heap.size := (by omega)
  obtain ⟨w3, rfl⟩ : ∃ w3, w3 = w' := ⟨_, rfl⟩
  go_wp2_with fail
  refine (L_toLogged _ (by assumption) (by first | (with_reducible assumption) | ((with_reducible refine RS.step ?_ (by assumption)); repeat (first | (with_reducible exact Below.refl _ _) | (with_reducible assumption) | ((with_reducible refine Below.alloc ?_ ?_ _); rotate_left; (first | omega | (simp <;> omega))) | ((with_reducible refine Below.setCell ?_ ?_ _); rotate_left; (first | omega | (simp <;> omega))) | (with_reducible refine below_drewN ?_ _) | (with_reducible refine Below.drew ?_) | ((with_reducible refine Below.step (by assumption) ?_ ?_); rotate_left; (first | omega | (simp <;> omega))))))).mono ?_
  rintro e w' ⟨g4a, rfl, ho4a, hr4a, hg4, hb⟩; have hz := hb.size; (try simp at hz); have c04 := fun o => hb.cell (p := ⟨w.heap.size, o, none⟩) (by first | omega | (simp <;> omega)); have z04 : w.heap.size < w'.heap.size := (by omega)
  obtain ⟨w4, rfl⟩ : ∃ w4, w4 = w' := ⟨_, rfl⟩
  go_wp2_with fail
  refine (I_FormatRecord _ (by first | (with_reducible assumption) | ((with_reducible refine RS.step ?_ (by assumption)); repeat (first | (with_reducible exact Below.refl _ _) | (with_reducible assumption) | ((with_reducible refine Below.alloc ?_ ?_ _); rotate_left; (first | omega | (simp <;> omega))) | ((with_reducible refine Below.setCell ?_ ?_ _); rotate_left; (first | omega | (simp <;> omega))) | (with_reducible refine below_drewN ?_ _) | (with_reducible refine Below.drew ?_) | ((with_reducible refine Below.step (by assumption) ?_ ?_); rotate_left; (first | omega | (simp <;> omega)))))) (HT.out.step (by repeat (first | (with_reducible exact Below.refl _ _) | (with_reducible assumption) | ((with_reducible refine Below.alloc ?_ ?_ _); rotate_left; (first | omega | (simp <;> omega))) | ((with_reducible refine Below.setCell ?_ ?_ _); rotate_left; (first | omega | (simp <;> omega))) | (with_reducible refine below_drewN ?_ _) | (with_reducible refine Below.drew ?_) | ((with_reducible refine Below.step (by assumption) ?_ ?_); rotate_left; (first | omega | (simp <;> omega))))))).mono ?_
  rintro e w' ⟨rfl, hb⟩; have hz := hb.size; (try simp at hz); have c05 := fun o => hb.cell (p := ⟨w.heap.size, o, none⟩) (by first | omega | (simp <;> omega)); have z05 : w.heap.size < w'.heap.size := (by omega); have c15 := fun o => hb.cell (p := ⟨w4.heap.size, o, none⟩) (by first | omega | (simp <;> omega)); have z15 : w4.heap.size < w'.heap.size := (by omega)
  obtain ⟨w5, rfl⟩ : ∃ w5, w5 = w' := ⟨_, rfl⟩
  go_wp2_with fail
  go_region_held3 (fun w' => w'.cell? ⟨w.heap.size, 0, none⟩ = some (.int .i64 y0a) ∧ w'.cell? ⟨w.heap.size, 1, none⟩ = some (.slice A0b l0b.length p0b) ∧ w'.cell? ⟨w4.heap.size, 0, none⟩ = some (.int .i64 y0a) ∧ w'.cell? ⟨w4.heap.size, 1, none⟩ = some (sl g4a l0b.length))
    (first | go_keep | ((try dsimp only); refine ⟨?_, ?_, ?_, ?_⟩ <;> go_simp))
    (first | (go_at_call 16; refine (L_toLogged _ (by assumption) (by first | (with_reducible assumption) | ((with_reducible refine RS.step ?_ (by assumption)); repeat (first | (with_reducible exact Below.refl _ _) | (with_reducible assumption) | ((with_reducible refine Below.alloc ?_ ?_ _); rotate_left; (first | omega | (simp <;> omega))) | ((with_reducible refine Below.setCell ?_ ?_ _); rotate_left; (first | omega | (simp <;> omega))) | (with_reducible refine below_drewN ?_ _) | (with_reducible refine Below.drew ?_) | ((with_reducible refine Below.step (by assumption) ?_ ?_); rotate_left; (first | omega | (simp <;> omega))))))).mono ?_; rintro e w' ⟨gr6a, rfl, hor6a, hrr6a, hgr6, hb⟩; have hz := hb.size; (try simp at hz); have c0r6 := fun o => hb.cell (p := ⟨w.heap.size, o, none⟩) (by first | omega | (simp <;> omega)); have z0r6 : w.heap.size < w'.heap.size := (by omega); have c1r6 := fun o => hb.cell (p := ⟨w4.heap.size, o, none⟩) (by first | omega | (simp <;> omega)); have z1r6 : w4.heap.size < w'.heap.size := (by omega)) | (go_at_call 18; refine (L_eqLogged _ (by first | (with_reducible assumption) | ((with_reducible refine RS.step ?_ (by assumption)); repeat (first | (with_reducible exact Below.refl _ _) | (with_reducible assumption) | ((with_reducible refine Below.alloc ?_ ?_ _); rotate_left; (first | omega | (simp <;> omega))) | ((with_reducible refine Below.setCell ?_ ?_ _); rotate_left; (first | omega | (simp <;> omega))) | (with_reducible refine below_drewN ?_ _) | (with_reducible refine Below.drew ?_) | ((with_reducible refine Below.step (by assumption) ?_ ?_); rotate_left; (first | omega | (simp <;> omega)))))) (by first | (with_reducible assumption) | ((with_reducible refine RS.step ?_ (by assumption)); repeat (first | (with_reducible exact Below.refl _ _) | (with_reducible assumption) | ((with_reducible refine Below.alloc ?_ ?_ _); rotate_left; (first | omega | (simp <;> omega))) | ((with_reducible refine Below.setCell ?_ ?_ _); rotate_left; (first | omega | (simp <;> omega))) | (with_reducible refine below_drewN ?_ _) | (with_reducible refine Below.drew ?_) | ((with_reducible refine Below.step (by assumption) ?_ ?_); rotate_left; (first | omega | (simp <;> omega))))))).mono ?_; rintro e w' ⟨rfl, hb⟩; have hz := hb.size; (try simp at hz); have c0r7 := fun o => hb.cell (p := ⟨w.heap.size, o, none⟩) (by first | omega | (simp <;> omega)); have z0r7 : w.heap.size < w'.heap.size := (by omega); have c1r7 := fun o => hb.cell (p := ⟨w4.heap.size, o, none⟩) (by first | omega | (simp <;> omega)); have z1r7 : w4.heap.size < w'.heap.size := (by omega)))
  go_wp2
  go_ret
  exact ⟨rfl, (by repeat (first | (with_reducible exact Below.refl _ _) | (with_reducible assumption) | ((with_reducible refine Below.alloc ?_ ?_ _); rotate_left; (first | omega | (simp <;> omega))) | ((with_reducible refine Below.setCell ?_ ?_ _); rotate_left; (first | omega | (simp <;> omega))) | (with_reducible refine below_drewN ?_ _) | (with_reducible refine Below.drew ?_) | ((with_reducible refine Below.step (by assumption) ?_ ?_); rotate_left; (first | omega | (simp <;> omega)))))⟩
def fnExactFormatRecordLaid : List (String × DataW Unit) := [("math/bits.deBruijn32tab", Rows.laid_math_bits_deBruijn32tab), ("math/bits.deBruijn64tab", Rows.laid_math_bits_deBruijn64tab), ("internal/strconv.uint64pow10", Rows.laid_internal_strconv_uint64pow10)]
theorem FnExactFormatRecord_walk : LawWalkD fnExactFormatRecordLaid 5 [34] := by
  intro H enc W base args ds ps hA hval hlt hsz hL hsh
  obtain ⟨v0, rfl, a0⟩ := args1 hA hval
  obtain ⟨y0a, A0b, p0b, l0b, rfl, h0b⟩ := a0.logged
  exact L_ExFormatRecord y0a A0b p0b l0b W h0b (tab_of_laid hL)
end Go.Proofs.YtlepnjahpmlccaaDoor
