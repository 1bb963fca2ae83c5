/- Join, of the reference and of the program; rows of strings. -/
import Derived.Test.YtlepnjahpmlccaaDoorTxtE
import Derived.Test.YtlepnjahpmlccaaDoorApp
import Derived.Test.YtlepnjahpmlccaaDoorWithin
namespace Go.Proofs.YtlepnjahpmlccaaDoor
open Go.RowKit Go.Lib
set_option linter.unusedVariables false
set_option maxRecDepth 100000
abbrev strs (ls : List (List UInt8)) : List Value := ls.map str
theorem strs_at {ls : List (List UInt8)} {k : Nat} (h : k < ls.length) : (strs ls)[k]? = some (str ls[k]) := by simp [h]
theorem strs_len (ls : List (List UInt8)) : (strs ls).length = ls.length := by simp
theorem strs_snoc (a : List (List UInt8)) (b : List UInt8) : strs a ++ strs [b] = strs (a ++ [b]) := by simp
theorem strs_one (ls : List (List UInt8)) : ∀ u ∈ strs ls, u.oneCell' = true := by
  intro u hu
  obtain ⟨x, _, rfl⟩ := List.mem_map.1 hu
  rfl
theorem T.infoString : (Tryd.prog.info? 9).map (fun i => (i.zero, i.size, i.bytes)) = some (some (.string ByteArray.empty), 1, 16) := by kernel_rfl
theorem join_take {ls : List (List UInt8)} {sep : List UInt8} {k : Nat} (h : k < ls.length) (hk : 0 < k) : join (ls.take (k + 1)) sep = join (ls.take k) sep ++ sep ++ ls[k] := by
  cases ls with
  | nil => cases h
  | cons a t =>
    obtain ⟨j, rfl⟩ : ∃ j, k = j + 1 := ⟨k - 1, by omega⟩
    have hj : j < t.length := by simpa using h
    simp only [List.take_succ_cons, join_cons, List.getElem_cons_succ]
    rw [joinTail_take_succ sep t j t[j] (List.getElem?_eq_getElem hj)]
    simp [List.append_assoc]
theorem join_take_one {ls : List (List UInt8)} {sep : List UInt8} (h : 0 < ls.length) : join (ls.take 1) sep = ls[0] := by
  cases ls with
  | nil => cases h
  | cons a t => simp [join_one]
theorem join_take_le (ls : List (List UInt8)) (sep : List UInt8) (k : Nat) : (join (ls.take k) sep).length ≤ (join ls sep).length := by
  cases ls with
  | nil => simp
  | cons a t =>
    cases k with
    | zero => simp [join_nil]
    | succ k =>
      rw [List.take_succ_cons, join_cons, join_cons, List.length_append, List.length_append]
      have : (joinTail sep (t.take k)).length ≤ (joinTail sep t).length := by
        have e : joinTail sep t = joinTail sep (t.take k) ++ joinTail sep (t.drop k) := by
          unfold joinTail
          rw [← List.flatten_append, ← List.map_append, List.take_append_drop]
        rw [e, List.length_append]; omega
      omega
set_option maxHeartbeats 4000000 in
theorem S_Join {A : Option Addr} {c : Nat} {ls : List (List UInt8)} {sep : List UInt8} (w : World) (h : RS w 1 A ls.length c (strs ls)) (hlen : (join ls sep).length ≤ 140737488355328) (hsep : sep.length ≤ 1000) :
    Calls Tryd.prog 61 #[.slice A ls.length c, str sep] w fun e w' => e = .returned (str (join ls sep)) ∧ w = w' := by
  obtain ⟨hn, hc, hr⟩ := h.open_
  unfold maxLen at hc
  clear h
  have HR := Lib.hid hr
  clear hr
  have HL := Lib.hid (fun k => Nat.le_trans (join_take_le ls sep k) hlen)
  clear hlen
  go_enter Tryd.func61, Tryd.ntmps61
  go_wp2_with fail
  go_loop [5, 6, 7, 10] (fun v _ _ i => ∃ k : Nat, k ≤ ls.length ∧ i = .int .i64 k ∧ v = str (join (ls.take k) sep)) (fun _ _ _ i => ls.length - (RowKit.intOf i).toNat)
  case atStart => exact ⟨0, Nat.zero_le _, rfl, rfl⟩
  case round =>
    obtain ⟨k, hk, rfl, rfl⟩ := hrel
    by_cases hlt : k < ls.length
    · obtain ⟨b, o, rfl, hbh, hcell⟩ := HR.out (by omega)
      have c1 : w.cell? ⟨b, o + k, none⟩ = some (str ls[k]) := by rw [hcell k (by omega), strs_at hlt]
      have hL1 := HL.out (k + 1)
      clear hcell
      by_cases hk0 : k = 0
      · subst hk0
        have HJ : Hid (join (ls.take (0 + 1)) sep = ls[0]) := Lib.hid (join_take_one hlt)
        have hL2 : ¬ 9223372036854775807 < ls[0].length := by have := HJ.out; rw [this] at hL1; omega
        have HJ0 : Hid (join (ls.take 0) sep = []) := Lib.hid rfl
        generalize hx : ls[0] = x at *
        rw [HJ0.out]
        have c1' : w.cell? ⟨b, o, none⟩ = some (str x) := c1
        clear hL1 hx c1
        rw [show ((0 : Nat) : Int) = 0 from rfl] at *
        go_wp2_with fail
        go_round
        case rel => exact ⟨1, by omega, by go_num, by rw [show (1 : Nat) = 0 + 1 from rfl, HJ.out]; first | rfl | exact congrArg Value.string (str_cat [] x)⟩
        case measure => simp [RowKit.intOf]; omega
      · have HJ : Hid (join (ls.take (k + 1)) sep = join (ls.take k) sep ++ sep ++ ls[k]) := Lib.hid (join_take hlt (by omega))
        have hk1 : (0 : Int) < k := by omega
        generalize hx : ls[k] = x at *
        generalize hy : join (ls.take k) sep = y at *
        have hL3 : y.length + sep.length + x.length ≤ 140737488355328 := by have := hL1; rw [HJ.out, List.length_append, List.length_append] at this; exact this
        have hL2 : ¬ 9223372036854775807 < y.length + sep.length := by omega
        have hL4 : ¬ 9223372036854775807 < y.length + sep.length + x.length := by omega
        have HX := Lib.hid hx
        have HY := Lib.hid hy
        clear hL1 hx hy hk0 hL3
        go_wp2_with fail
        go_round
        case rel => exact ⟨k + 1, by omega, by go_num, by rw [HJ.out]; show Value.string (({ data := y.toArray } : ByteArray) ++ { data := sep.toArray } ++ { data := x.toArray }) = _; rw [str_cat, str_cat]⟩
        case measure => simp [RowKit.intOf]; omega
    · obtain rfl : k = ls.length := by omega
      have HJ : Hid (join (ls.take ls.length) sep = join ls sep) := Lib.hid (by rw [List.take_length])
      rw [HJ.out]
      go_wp2_with fail
      go_ret
      exact ⟨rfl, rfl⟩
set_option maxHeartbeats 4000000 in
theorem I_Join {A : Option Addr} {c : Nat} {ls : List (List UInt8)} {sep : List UInt8} (w : World) (h : RS w 1 A ls.length c (strs ls)) (hpos : 0 < ls.length) (hn47 : ls.length ≤ 1000000) (hlen : (join ls sep).length ≤ 140737488355328) :
    Calls Tryd.prog 40 #[.slice A ls.length c, str sep] w fun e w' => e = .returned (str (join ls sep)) ∧ Below w.heap.size w w' := by
  obtain ⟨hn, hc, hr⟩ := h.open_
  obtain ⟨b, o, rfl, hbh, hcell⟩ := hr (by omega)
  have e1 : (ls.map fun x => (⟨x.toArray⟩ : ByteArray)).map (fun x => x.data.toList) = ls := by
    rw [List.map_map]; simp [Function.comp_def]
  have HC : Hid (Calls Tryd.prog 72 #[.slice (some ⟨b, o, none⟩) ls.length c, str sep] w fun e w' => e = .returned (str (join ls sep)) ∧ Below w.heap.size w w') := Lib.hid (by
    have h0 := Tryd.strings_Join b o c (ls.map fun x => (⟨x.toArray⟩ : ByteArray)) ⟨sep.toArray⟩ w (fun j x hj => by
      rw [List.getElem?_map] at hj
      cases hg : ls[j]? with
      | none => rw [hg] at hj; cases hj
      | some y =>
        rw [hg] at hj
        obtain rfl := Option.some.inj hj
        have hj' := (List.getElem?_eq_some_iff.1 hg)
        obtain ⟨hj1, hj2⟩ := hj'
        rw [hcell j (by omega), strs_at hj1, hj2]) hbh (by rw [List.length_map]; omega) (by rw [List.length_map]; omega) (by rw [e1]; exact hlen)
    rw [e1, List.length_map] at h0
    exact h0)
  have hJA : Calls Tryd.prog 62 #[str sep, .slice (some ⟨b, o, none⟩) ls.length c] w fun e w' => e = .returned (str (join ls sep)) ∧ Below w.heap.size w w' := by
    clear hcell hr e1 h hlen
    go_enter Tryd.func62, Tryd.ntmps62
    go_wp2_with fail
    refine HC.out.mono ?_
    rintro e w' ⟨rfl, hb⟩
    go_wp2_with fail
    go_ret
    exact ⟨rfl, hb⟩
  have HJ := Lib.hid hJA
  clear hcell hr e1 h hlen hJA HC
  go_enter Tryd.func40, Tryd.ntmps40
  go_wp2_with fail
  refine HJ.out.mono ?_
  rintro e w' ⟨rfl, hb⟩
  go_wp2_with fail
  go_ret
  exact ⟨rfl, hb⟩
end Go.Proofs.YtlepnjahpmlccaaDoor
