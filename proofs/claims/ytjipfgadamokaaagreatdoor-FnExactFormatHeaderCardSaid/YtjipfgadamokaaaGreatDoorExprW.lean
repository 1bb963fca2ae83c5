/- exprOf, known, fitting of the program: a node behind an interface. -/
import Derived.Test.YtjipfgadamokaaaGreatDoorMapW
import Derived.Test.YtjipfgadamokaaaGreatDoorNodeV
set_option linter.unusedVariables false
set_option linter.unusedSimpArgs false
namespace Go.Proofs.YtjipfgadamokaaaGreatDoor
open Go.RowKit Go.Lib Go.Maps Go.WideMaps
set_option maxRecDepth 100000
/-- The type of a node behind the interface. -/
def exT (op : Int) : TypeId := if op = 2 then 173 else if op = 8 then 174 else 175
set_option maxHeartbeats 4000000 in
theorem I_exprOf {op : Int} {name : List UInt8} {num : Int} {A : Option Addr} {n c : Nat} (w : World) :
    Calls Tryz.prog 114 #[vNode op name num A n c] w fun e w' => e = .returned (.iface (exT op) (vNode op name num A n c)) ∧ Below w.heap.size w w' := by
  rcases op3_cases op with rfl | rfl | ⟨h2, h8⟩
  · go_enter Tryz.func114, Tryz.ntmps114
    go_wp2_with fail
    go_ret
    exact ⟨rfl, (by repeat (first | (with_reducible exact Below.refl _ _) | (with_reducible assumption) | ((with_reducible refine Below.alloc ?_ ?_ _); rotate_left; (first | omega | (simp <;> omega))) | ((with_reducible refine Below.setCell ?_ ?_ _); rotate_left; (first | omega | (simp <;> omega))) | (with_reducible refine below_drewN ?_ _) | (with_reducible refine Below.drew ?_) | ((with_reducible refine Below.step (by assumption) ?_ ?_); rotate_left; (first | omega | (simp <;> omega)))))⟩
  · go_enter Tryz.func114, Tryz.ntmps114
    go_wp2_with fail
    go_ret
    exact ⟨rfl, (by repeat (first | (with_reducible exact Below.refl _ _) | (with_reducible assumption) | ((with_reducible refine Below.alloc ?_ ?_ _); rotate_left; (first | omega | (simp <;> omega))) | ((with_reducible refine Below.setCell ?_ ?_ _); rotate_left; (first | omega | (simp <;> omega))) | (with_reducible refine below_drewN ?_ _) | (with_reducible refine Below.drew ?_) | ((with_reducible refine Below.step (by assumption) ?_ ?_); rotate_left; (first | omega | (simp <;> omega)))))⟩
  · have e2 : (op == 2) = false := by simpa using h2
    have e8 : (op == 8) = false := by simpa using h8
    have HT : Hid (exT op = 175) := Lib.hid (by unfold exT; rw [if_neg h2, if_neg h8])
    go_enter Tryz.func114, Tryz.ntmps114
    go_wp2_with fail
    go_ret
    exact ⟨by rw [HT.out]; rfl, (by repeat (first | (with_reducible exact Below.refl _ _) | (with_reducible assumption) | ((with_reducible refine Below.alloc ?_ ?_ _); rotate_left; (first | omega | (simp <;> omega))) | ((with_reducible refine Below.setCell ?_ ?_ _); rotate_left; (first | omega | (simp <;> omega))) | (with_reducible refine below_drewN ?_ _) | (with_reducible refine Below.drew ?_) | ((with_reducible refine Below.step (by assumption) ?_ ?_); rotate_left; (first | omega | (simp <;> omega)))))⟩
abbrev zNode : Value := .agg #[.int .i64 0, .string ByteArray.empty, .int .i64 0, .slice none 0 0]
theorem ta_var (v : Value) (w : World) : (Instr.typeAssert (.iface 173 v) 153 173 true).run Tryz.prog w = .ok (.tuple #[v, .bool true]) w := by kernel_rfl
theorem ta_call (v : Value) (w : World) : (Instr.typeAssert (.iface 174 v) 153 174 true).run Tryz.prog w = .ok (.tuple #[v, .bool true]) w := by kernel_rfl
theorem ta_cv (v : Value) (w : World) : (Instr.typeAssert (.iface 174 v) 153 173 true).run Tryz.prog w = .ok (.tuple #[zNode, .bool false]) w := by kernel_rfl
theorem ta_vc (v : Value) (w : World) : (Instr.typeAssert (.iface 173 v) 153 174 true).run Tryz.prog w = .ok (.tuple #[zNode, .bool false]) w := by kernel_rfl
theorem ta_pv (v : Value) (w : World) : (Instr.typeAssert (.iface 175 v) 153 173 true).run Tryz.prog w = .ok (.tuple #[zNode, .bool false]) w := by kernel_rfl
theorem ta_pc (v : Value) (w : World) : (Instr.typeAssert (.iface 175 v) 153 174 true).run Tryz.prog w = .ok (.tuple #[zNode, .bool false]) w := by kernel_rfl
set_option maxHeartbeats 8000000 in
theorem I_known2 {name : List UInt8} {num own : Int} {A : Option Addr} {n c B : Nat} {p : EProg} {D : DataW Unit} (w : World) (hm : MapAt w B p.2.length D) (hf : IsFirst p p.2.length D) (hs : name.length ≤ maxLen) :
    Calls Tryz.prog 113 #[.iface 173 (vNode 2 name num A n c), .int .i64 own, .map (some B)] w fun e w' => e = .returned (.bool (isVar name || has p name own)) ∧ Below w.heap.size w w' := by
  have t1 := ta_var
  have hkey := key_str hs
  have hBl := World.ownsMap.lt hm
  have HM := Lib.hid hm
  have HMA : Hid (MapAt (w.alloc (.cells #[.int .i64 2, str name, .int .i64 num, .slice A n c] 173)) B p.2.length D) := Lib.hid (World.ownsMap.alloc hm _)
  have HFH := Lib.hid (first_has (p := p) (name := name) own)
  have HH := Lib.hid (hf.has name)
  have HAT := Lib.hid (hf.at_ name)
  clear hm hf hs
  have HIV : Hid (∀ wx, Calls Tryz.prog 116 #[str name] wx fun e w' => e = .returned (.bool (isVar name)) ∧ wx = w') := Lib.hid (fun wx => I_IsVariable name wx)
  cases hft : firstTo p name p.2.length with
  | none =>
    have HHF : Hid (Maps.has D (.string name) = false) := Lib.hid (by rw [HH.out, hft]; rfl)
    have HR : Hid (has p name own = false) := Lib.hid (by rw [← HFH.out, hft])
    go_enter Tryz.func113, Tryz.ntmps113
    go_wp2_with (first | (at_lookup; refine wpList_lookup_own_ok_int _ rfl _ _ 149 rfl 9 3 .i64 keyS Tryz.underlying149 Tryz.underlying3 (zeroI _) B p.2.length D rfl HMA.out _ _ rfl hkey ?_; intro cc hat hwc; rw [HHF.out]; clear hat hwc) | (go_at_call 116; refine (HIV.out _).mono ?_; rintro e w' ⟨rfl, rfl⟩) | fail)
    all_goals
      go_ret
      exact ⟨ret_bool (by rw [HR.out]; simp [*]), (by repeat (first | (with_reducible exact Below.refl _ _) | (with_reducible assumption) | ((with_reducible refine Below.alloc ?_ ?_ _); rotate_left; (first | omega | (simp <;> omega))) | ((with_reducible refine Below.setCell ?_ ?_ _); rotate_left; (first | omega | (simp <;> omega))) | (with_reducible refine below_drewN ?_ _) | (with_reducible refine Below.drew ?_) | ((with_reducible refine Below.step (by assumption) ?_ ?_); rotate_left; (first | omega | (simp <;> omega)))))⟩
  | some j =>
    have HHF : Hid (Maps.has D (.string name) = true) := Lib.hid (by rw [HH.out, hft]; rfl)
    have HR : Hid (has p name own = decide ((j : Int) < own)) := Lib.hid (by rw [← HFH.out, hft])
    have HAJ := Lib.hid (HAT.out j hft)
    clear hft
    by_cases hlt : (j : Int) < own
    · go_enter Tryz.func113, Tryz.ntmps113
      go_wp2_with (first | (at_lookup; refine wpList_lookup_own_ok_int _ rfl _ _ 149 rfl 9 3 .i64 keyS Tryz.underlying149 Tryz.underlying3 (zeroI _) B p.2.length D rfl HMA.out _ _ rfl hkey ?_; intro cc hat hwc; rw [HHF.out]; rw [HAJ.out] at hat; injection hat with hat; injection hat with _ hat; subst hat; clear hwc) | (go_at_call 116; refine (HIV.out _).mono ?_; rintro e w' ⟨rfl, rfl⟩) | fail)
      all_goals
        go_ret
        exact ⟨ret_bool (by rw [HR.out]; simp [*]), (by repeat (first | (with_reducible exact Below.refl _ _) | (with_reducible assumption) | ((with_reducible refine Below.alloc ?_ ?_ _); rotate_left; (first | omega | (simp <;> omega))) | ((with_reducible refine Below.setCell ?_ ?_ _); rotate_left; (first | omega | (simp <;> omega))) | (with_reducible refine below_drewN ?_ _) | (with_reducible refine Below.drew ?_) | ((with_reducible refine Below.step (by assumption) ?_ ?_); rotate_left; (first | omega | (simp <;> omega)))))⟩
    · go_enter Tryz.func113, Tryz.ntmps113
      go_wp2_with (first | (at_lookup; refine wpList_lookup_own_ok_int _ rfl _ _ 149 rfl 9 3 .i64 keyS Tryz.underlying149 Tryz.underlying3 (zeroI _) B p.2.length D rfl HMA.out _ _ rfl hkey ?_; intro cc hat hwc; rw [HHF.out]; rw [HAJ.out] at hat; injection hat with hat; injection hat with _ hat; subst hat; clear hwc) | (go_at_call 116; refine (HIV.out _).mono ?_; rintro e w' ⟨rfl, rfl⟩) | fail)
      all_goals
        go_ret
        exact ⟨ret_bool (by rw [HR.out]; simp [*]), (by repeat (first | (with_reducible exact Below.refl _ _) | (with_reducible assumption) | ((with_reducible refine Below.alloc ?_ ?_ _); rotate_left; (first | omega | (simp <;> omega))) | ((with_reducible refine Below.setCell ?_ ?_ _); rotate_left; (first | omega | (simp <;> omega))) | (with_reducible refine below_drewN ?_ _) | (with_reducible refine Below.drew ?_) | ((with_reducible refine Below.step (by assumption) ?_ ?_); rotate_left; (first | omega | (simp <;> omega)))))⟩
set_option maxHeartbeats 8000000 in
theorem I_known8 {name : List UInt8} {num own : Int} {A : Option Addr} {n c B : Nat} (w : World) :
    Calls Tryz.prog 113 #[.iface 174 (vNode 8 name num A n c), .int .i64 own, .map (some B)] w fun e w' => e = .returned (.bool (decide (0 ≤ arityF name))) ∧ Below w.heap.size w w' := by
  have t1 := ta_cv
  have t2 := ta_call
  have HAR : Hid (∀ wx, Calls Tryz.prog 138 #[str name] wx fun e w' => e = .returned (.int .i64 (arityF name)) ∧ wx = w') := Lib.hid (fun wx => I_Arity name wx)
  generalize arityF name = an at *
  go_enter Tryz.func113, Tryz.ntmps113
  go_wp2_with (first | (go_at_call 138; refine (HAR.out _).mono ?_; rintro e w' ⟨rfl, rfl⟩) | fail)
  go_ret
  exact ⟨ret_bool (by first | rfl | simp), (by repeat (first | (with_reducible exact Below.refl _ _) | (with_reducible assumption) | ((with_reducible refine Below.alloc ?_ ?_ _); rotate_left; (first | omega | (simp <;> omega))) | ((with_reducible refine Below.setCell ?_ ?_ _); rotate_left; (first | omega | (simp <;> omega))) | (with_reducible refine below_drewN ?_ _) | (with_reducible refine Below.drew ?_) | ((with_reducible refine Below.step (by assumption) ?_ ?_); rotate_left; (first | omega | (simp <;> omega)))))⟩
set_option maxHeartbeats 8000000 in
theorem I_known0 {op : Int} {name : List UInt8} {num own : Int} {A : Option Addr} {n c B : Nat} (w : World) :
    Calls Tryz.prog 113 #[.iface 175 (vNode op name num A n c), .int .i64 own, .map (some B)] w fun e w' => e = .returned (.bool true) ∧ Below w.heap.size w w' := by
  have t1 := ta_pv
  have t2 := ta_pc
  go_enter Tryz.func113, Tryz.ntmps113
  go_wp2_with fail
  go_ret
  exact ⟨rfl, (by repeat (first | (with_reducible exact Below.refl _ _) | (with_reducible assumption) | ((with_reducible refine Below.alloc ?_ ?_ _); rotate_left; (first | omega | (simp <;> omega))) | ((with_reducible refine Below.setCell ?_ ?_ _); rotate_left; (first | omega | (simp <;> omega))) | (with_reducible refine below_drewN ?_ _) | (with_reducible refine Below.drew ?_) | ((with_reducible refine Below.step (by assumption) ?_ ?_); rotate_left; (first | omega | (simp <;> omega)))))⟩
set_option maxHeartbeats 8000000 in
theorem I_fitting8 {name : List UInt8} {num : Int} {A : Option Addr} {n c : Nat} (w : World) :
    Calls Tryz.prog 115 #[.iface 174 (vNode 8 name num A n c)] w fun e w' => e = .returned (.bool (decide (arityF name = n))) ∧ Below w.heap.size w w' := by
  have t2 := ta_call
  obtain ⟨an, han⟩ : ∃ n, arityF name = n := ⟨_, rfl⟩
  have HAR := Lib.hid han
  rw [han]
  clear han
  have HE : Hid (((n : Int) == an) = decide (an = n)) := Lib.hid (by rw [Bool.eq_iff_iff]; simp; omega)
  go_enter Tryz.func115, Tryz.ntmps115
  go_wp2_with fail
  go_quiet ((first | (go_at_call 138; exact quiet_same (I_Arity_is HAR.out _)) | fail))
  go_wp2_with fail
  go_ret
  exact ⟨ret_bool HE.out, (by repeat (first | (with_reducible exact Below.refl _ _) | (with_reducible assumption) | ((with_reducible refine Below.alloc ?_ ?_ _); rotate_left; (first | omega | (simp <;> omega))) | ((with_reducible refine Below.setCell ?_ ?_ _); rotate_left; (first | omega | (simp <;> omega))) | (with_reducible refine below_drewN ?_ _) | (with_reducible refine Below.drew ?_) | ((with_reducible refine Below.step (by assumption) ?_ ?_); rotate_left; (first | omega | (simp <;> omega)))))⟩
set_option maxHeartbeats 8000000 in
theorem I_fitting0 {op : Int} {name : List UInt8} {num : Int} {A : Option Addr} {n c : Nat} (w : World) :
    Calls Tryz.prog 115 #[.iface 175 (vNode op name num A n c)] w fun e w' => e = .returned (.bool true) ∧ Below w.heap.size w w' := by
  have t2 := ta_pc
  go_enter Tryz.func115, Tryz.ntmps115
  go_wp2_with fail
  go_quiet (fail)
  go_wp2_with fail
  go_ret
  exact ⟨rfl, (by repeat (first | (with_reducible exact Below.refl _ _) | (with_reducible assumption) | ((with_reducible refine Below.alloc ?_ ?_ _); rotate_left; (first | omega | (simp <;> omega))) | ((with_reducible refine Below.setCell ?_ ?_ _); rotate_left; (first | omega | (simp <;> omega))) | (with_reducible refine below_drewN ?_ _) | (with_reducible refine Below.drew ?_) | ((with_reducible refine Below.step (by assumption) ?_ ?_); rotate_left; (first | omega | (simp <;> omega)))))⟩
set_option maxHeartbeats 8000000 in
theorem I_fitting2 {op : Int} {name : List UInt8} {num : Int} {A : Option Addr} {n c : Nat} (w : World) :
    Calls Tryz.prog 115 #[.iface 173 (vNode op name num A n c)] w fun e w' => e = .returned (.bool true) ∧ Below w.heap.size w w' := by
  have t2 := ta_vc
  go_enter Tryz.func115, Tryz.ntmps115
  go_wp2_with fail
  go_quiet (fail)
  go_wp2_with fail
  go_ret
  exact ⟨rfl, (by repeat (first | (with_reducible exact Below.refl _ _) | (with_reducible assumption) | ((with_reducible refine Below.alloc ?_ ?_ _); rotate_left; (first | omega | (simp <;> omega))) | ((with_reducible refine Below.setCell ?_ ?_ _); rotate_left; (first | omega | (simp <;> omega))) | (with_reducible refine below_drewN ?_ _) | (with_reducible refine Below.drew ?_) | ((with_reducible refine Below.step (by assumption) ?_ ?_); rotate_left; (first | omega | (simp <;> omega)))))⟩
/-- A node whatever its kind. -/
theorem I_fitting {op : Int} {name : List UInt8} {num : Int} {A : Option Addr} {l : List Int} {c : Nat} (w : World) :
    Calls Tryz.prog 115 #[.iface (exT op) (vNode op name num A l.length c)] w fun e w' => e = .returned (.bool (arityOk (op, name, num, l))) ∧ Below w.heap.size w w' := by
  rcases op3_cases op with rfl | rfl | ⟨h2, h8⟩
  · exact I_fitting2 w
  · rw [arityOk8]; exact I_fitting8 w
  · rw [arityOk0 h8, show exT op = 175 by unfold exT; rw [if_neg h2, if_neg h8]]; exact I_fitting0 w
theorem I_known {op : Int} {name : List UInt8} {num : Int} {A : Option Addr} {l : List Int} {c B k : Nat} {p : EProg} {D : DataW Unit} (w : World) (hm : MapAt w B p.2.length D) (hf : IsFirst p p.2.length D) (hs : name.length ≤ maxLen) :
    Calls Tryz.prog 113 #[.iface (exT op) (vNode op name num A l.length c), .int .i64 ((ownP p).getD k 0), .map (some B)] w fun e w' => e = .returned (.bool (nameOk p k (op, name, num, l))) ∧ Below w.heap.size w w' := by
  rcases op3_cases op with rfl | rfl | ⟨h2, h8⟩
  · rw [nameOk2]; exact I_known2 w hm hf hs
  · rw [nameOk8]; exact I_known8 w
  · rw [nameOk0 h2 h8, show exT op = 175 by unfold exT; rw [if_neg h2, if_neg h8]]; exact I_known0 w
end Go.Proofs.YtjipfgadamokaaaGreatDoor
