/- Texts of integers, of either sign: the reference's FormatInt and the program's (strconv.Itoa by the shelf's contract: its table lies in a package-level variable). -/
import Derived.Test.YtlepnjahpmlccaaDoorTxtI
import Derived.Test.YtlepnjahpmlccaaDoorShelfD
import Derived.Test.YtlepnjahpmlccaaDoorLawD
namespace Go.Proofs.YtlepnjahpmlccaaDoor
open Go.RowKit Go.Lib
set_option linter.unusedVariables false
set_option maxRecDepth 100000
set_option maxHeartbeats 4000000 in
theorem S_FormatInt (n : Int) (w : World) :
    Calls Tryd.prog 28 #[.int .i64 n] w fun e w' => e = .returned (str (fmtI n)) ∧ Below w.heap.size w w' := by
  by_cases hn : inNum n
  · obtain ⟨h1, h2⟩ := hn
    by_cases h0 : n < 0
    · have hi : inB n (-1000000000) 1000000000 = true := inB_mk (by omega) (by omega)
      obtain ⟨m, hm⟩ : ∃ m : Nat, -n = m := ⟨n.natAbs, by omega⟩
      have hw : IntKind.i64.wrap (-n) = (m : Int) := by rw [hm]; exact IntWalk.i64_in _ (by omega)
      have hf : fmtI n = 45 :: decDigits m := by
        rw [fmtI_in ⟨h1, h2⟩]; unfold itoa; rw [if_pos h0, show n.natAbs = m by omega]
      have HF := Lib.hid hf
      have hm9 : m ≤ 1000000000 := by omega
      have hsl : ¬ 9223372036854775807 < 1 + (decDigits m).length := by
        rw [decDigits_length]; have := nDigits_le 9 m (by omega); omega
      clear hf
      go_enter Tryd.func28, Tryd.ntmps28
      go_wp2_with (first | (go_at_call 34; refine (S_in _ _ _ _).mono ?_; rw [hi]; rintro e w' ⟨rfl, rfl⟩) | fail)
      (try rw [hw])
      refine (S_FormatInt_nat m hm9 _).mono ?_
      rintro e w' ⟨rfl, hb⟩
      go_wp2_with fail
      go_ret
      refine ⟨?_, (by repeat (first | (with_reducible exact Below.refl _ _) | (with_reducible assumption) | ((with_reducible refine Below.alloc ?_ ?_ _); rotate_left; (first | omega | (simp <;> omega))) | ((with_reducible refine Below.setCell ?_ ?_ _); rotate_left; (first | omega | (simp <;> omega))) | (with_reducible refine below_drewN ?_ _) | (with_reducible refine Below.drew ?_) | ((with_reducible refine Below.step (by assumption) ?_ ?_); rotate_left; (first | omega | (simp <;> omega)))))⟩
      rw [HF.out]
      show Ending.returned (Value.string (({ data := [45].toArray } : ByteArray) ++ { data := (decDigits m).toArray })) = _
      rw [str_cat]; rfl
    · obtain ⟨m, rfl⟩ : ∃ m : Nat, n = m := ⟨n.toNat, by omega⟩
      have e : fmtI (m : Int) = decDigits m := by
        rw [fmtI_in ⟨h1, h2⟩]; unfold itoa; rw [if_neg h0]; rfl
      rw [e]
      exact S_FormatInt_nat m (by omega) w
  · have hi : inB n (-1000000000) 1000000000 = false := by
      cases h : inB n (-1000000000) 1000000000 with
      | false => rfl
      | true => exact absurd (inB_true h) hn
    have HF := Lib.hid (fmtI_out hn)
    clear hn
    go_enter Tryd.func28, Tryd.ntmps28
    go_wp2_with (first | (go_at_call 34; refine (S_in _ _ _ _).mono ?_; rw [hi]; rintro e w' ⟨rfl, rfl⟩) | fail)
    go_ret
    exact ⟨by rw [HF.out]; rfl, (by repeat (first | (with_reducible exact Below.refl _ _) | (with_reducible assumption) | ((with_reducible refine Below.alloc ?_ ?_ _); rotate_left; (first | omega | (simp <;> omega))) | ((with_reducible refine Below.setCell ?_ ?_ _); rotate_left; (first | omega | (simp <;> omega))) | (with_reducible refine below_drewN ?_ _) | (with_reducible refine Below.drew ?_) | ((with_reducible refine Below.step (by assumption) ?_ ?_); rotate_left; (first | omega | (simp <;> omega)))))⟩
/-- The table of powers that strconv.Itoa reads. -/
def Tab (w : World) : Prop := TabIs Tryd.prog w "internal/strconv.uint64pow10" .u64 pow10Tab
theorem Tab.step {w w' : World} (h : Tab w) (hb : Below w.heap.size w w') : Tab w' := by
  unfold Tab TabIs World.var? at *
  rw [show Tryd.prog.globalNamed "internal/strconv.uint64pow10" = some 4 by kernel_rfl] at *
  simp only [Option.bind_some] at *
  have hlt : 4 < w.heap.size := by
    rcases Nat.lt_or_ge 4 w.heap.size with h' | h'
    · exact h'
    · simp [Array.getElem?_eq_none h'] at h
  rw [hb.block _ hlt]
  exact h
theorem Tab.trans {B : Nat} {w w' : World} (h : Tab w) (hb : Below B w w') (hB : B = w.heap.size) : Tab w' := h.step (hB ▸ hb)
theorem below_grow {w : World} (k : Nat) (os : Array Obj) : Below w.heap.size w (Sort.grow (w.drewN k) os) :=
  ⟨rfl, rfl, rfl, by simp [Sort.grow, World.drewN], fun j hj => by
    show (w.heap ++ os)[j]? = w.heap[j]?
    rw [Array.getElem?_append_left hj]⟩
set_option maxHeartbeats 4000000 in
theorem I_FormatInt (n : Int) (w : World) (ht : Tab w) :
    Calls Tryd.prog 30 #[.int .i64 n] w fun e w' => e = .returned (str (fmtI n)) ∧ Below w.heap.size w w' := by
  by_cases hn : inNum n
  · have h1 : ¬ n < -1000000000 := by have := hn.1; omega
    have h2 : ¬ 1000000000 < n := by have := hn.2; omega
    have HF := Lib.hid (fmtI_in hn)
    clear hn
    go_enter Tryd.func30, Tryd.ntmps30
    go_wp2_with fail
    refine (Tryd.strconv_Itoa n (by omega) (by omega) _ ht).mono ?_
    rintro e w' ⟨rfl, k, os, rfl⟩
    go_wp2_with fail
    go_ret
    exact ⟨by rw [HF.out]; rfl, below_grow k os⟩
  · have HF := Lib.hid (fmtI_out hn)
    by_cases h1 : n < -1000000000
    · clear hn
      go_enter Tryd.func30, Tryd.ntmps30
      go_wp2_with fail
      go_ret
      exact ⟨by rw [HF.out]; rfl, (by repeat (first | (with_reducible exact Below.refl _ _) | (with_reducible assumption) | ((with_reducible refine Below.alloc ?_ ?_ _); rotate_left; (first | omega | (simp <;> omega))) | ((with_reducible refine Below.setCell ?_ ?_ _); rotate_left; (first | omega | (simp <;> omega))) | (with_reducible refine below_drewN ?_ _) | (with_reducible refine Below.drew ?_) | ((with_reducible refine Below.step (by assumption) ?_ ?_); rotate_left; (first | omega | (simp <;> omega)))))⟩
    · have h2 : 1000000000 < n := by unfold inNum at hn; omega
      clear hn
      go_enter Tryd.func30, Tryd.ntmps30
      go_wp2_with fail
      go_ret
      exact ⟨by rw [HF.out]; rfl, (by repeat (first | (with_reducible exact Below.refl _ _) | (with_reducible assumption) | ((with_reducible refine Below.alloc ?_ ?_ _); rotate_left; (first | omega | (simp <;> omega))) | ((with_reducible refine Below.setCell ?_ ?_ _); rotate_left; (first | omega | (simp <;> omega))) | (with_reducible refine below_drewN ?_ _) | (with_reducible refine Below.drew ?_) | ((with_reducible refine Below.step (by assumption) ?_ ?_); rotate_left; (first | omega | (simp <;> omega)))))⟩
theorem tab_of_laid {W : World} {rest : List (String × DataW Unit)} {a b : String × DataW Unit} (h : laidMet Tryd.prog (a :: b :: ("internal/strconv.uint64pow10", Rows.laid_internal_strconv_uint64pow10) :: rest) W) : Tab W :=
  tabIs_of_head (k := .u64) (zs := pow10Tab) (rest := rest) (e := 106) (n := 20) (show Tryd.prog.globalNamed "internal/strconv.uint64pow10" = some 4 by kernel_rfl) (show (Tryd.prog.globals[4]?).map (·.type) = some 122 by kernel_rfl) Tryd.underlying122 Tryd.underlying106 (by kernel_rfl) (by kernel_rfl) h.tail.tail
end Go.Proofs.YtlepnjahpmlccaaDoor
