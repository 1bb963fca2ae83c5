/- Several texts in one: LawD, TxtF, TxtE, Within, TxtJ. -/
import Derived.Test.YtnlbojckobgjpaaGreatDoorMgA
import Derived.Test.YtnlbojckobgjpaaGreatDoorShelfD
import Derived.LaidSub

/- Texts of integers, of either sign: the reference's FormatInt and the program's (strconv.Itoa by the shelf's contract: its table lies in a package-level variable). -/
set_option linter.unusedVariables false
set_option linter.unusedSimpArgs false
namespace Go.Proofs.YtnlbojckobgjpaaGreatDoor
open Go.RowKit Go.Lib
set_option maxRecDepth 100000
/-- The table of powers that strconv.Itoa reads. -/
def Tab (w : World) : Prop := TabIs Tryz.prog w "internal/strconv.uint64pow10" .u64 pow10Tab
theorem Tab.step {w w' : World} (h : Tab w) (hb : Below w.heap.size w w') : Tab w' := by
  unfold Tab TabIs World.var? at *
  rw [show Tryz.prog.globalNamed "internal/strconv.uint64pow10" = some 2 by kernel_rfl] at *
  simp only [Option.bind_some] at *
  have hlt : 2 < w.heap.size := by
    rcases Nat.lt_or_ge 2 w.heap.size with h' | h'
    · exact h'
    · simp [Array.getElem?_eq_none h'] at h
  rw [hb.block _ hlt]
  exact h
theorem Tab.trans {B : Nat} {w w' : World} (h : Tab w) (hb : Below B w w') (hB : B = w.heap.size) : Tab w' := h.step (hB ▸ hb)
theorem below_grow {w : World} (k : Nat) (os : Array Obj) : Below w.heap.size w (Sort.grow (w.drewN k) os) :=
  ⟨rfl, rfl, rfl, by simp [Sort.grow, World.drewN], fun j hj => by
    show (w.heap ++ os)[j]? = w.heap[j]?
    rw [Array.getElem?_append_left hj]⟩
set_option maxHeartbeats 4000000 in
theorem I_FormatInt (n : Int) (w : World) (ht : Tab w) :
    Calls Tryz.prog 65 #[.int .i64 n] w fun e w' => e = .returned (str (fmtI n)) ∧ Below w.heap.size w w' := by
  by_cases hn : inNum n
  · have h1 : ¬ n < -1000000000 := by have := hn.1; omega
    have h2 : ¬ 1000000000 < n := by have := hn.2; omega
    have HF := Lib.hid (fmtI_in hn)
    clear hn
    go_enter Tryz.func65, Tryz.ntmps65
    go_wp2_with fail
    refine (Tryz.strconv_Itoa n (by omega) (by omega) _ ht).mono ?_
    rintro e w' ⟨rfl, k, os, rfl⟩
    go_wp2_with fail
    go_ret
    exact ⟨by rw [HF.out]; rfl, below_grow k os⟩
  · have HF := Lib.hid (fmtI_out hn)
    by_cases h1 : n < -1000000000
    · clear hn
      go_enter Tryz.func65, Tryz.ntmps65
      go_wp2_with fail
      go_ret
      exact ⟨by rw [HF.out]; rfl, (by repeat (first | (with_reducible exact Below.refl _ _) | (with_reducible assumption) | ((with_reducible refine Below.alloc ?_ ?_ _); rotate_left; (first | omega | (simp <;> omega))) | ((with_reducible refine Below.setCell ?_ ?_ _); rotate_left; (first | omega | (simp <;> omega))) | (with_reducible refine below_drewN ?_ _) | (with_reducible refine Below.drew ?_) | ((with_reducible refine Below.step (by assumption) ?_ ?_); rotate_left; (first | omega | (simp <;> omega)))))⟩
    · have h2 : 1000000000 < n := by unfold inNum at hn; omega
      clear hn
      go_enter Tryz.func65, Tryz.ntmps65
      go_wp2_with fail
      go_ret
      exact ⟨by rw [HF.out]; rfl, (by repeat (first | (with_reducible exact Below.refl _ _) | (with_reducible assumption) | ((with_reducible refine Below.alloc ?_ ?_ _); rotate_left; (first | omega | (simp <;> omega))) | ((with_reducible refine Below.setCell ?_ ?_ _); rotate_left; (first | omega | (simp <;> omega))) | (with_reducible refine below_drewN ?_ _) | (with_reducible refine Below.drew ?_) | ((with_reducible refine Below.step (by assumption) ?_ ?_); rotate_left; (first | omega | (simp <;> omega)))))⟩
theorem tab_of_laid {W : World} {l : List (String × DataW Unit)} (h : laidMet Tryz.prog l W) (e : (l.filter fun x => x.1 == "internal/strconv.uint64pow10") = [("internal/strconv.uint64pow10", Rows.laid_internal_strconv_uint64pow10)] := by rfl) : Tab W :=
  tabIs_of_head (k := .u64) (zs := pow10Tab) (rest := []) (e := 163) (n := 20) (show Tryz.prog.globalNamed "internal/strconv.uint64pow10" = some 2 by kernel_rfl) (show (Tryz.prog.globals[2]?).map (·.type) = some 175 by kernel_rfl) Tryz.underlying175 Tryz.underlying163 (by kernel_rfl) (by kernel_rfl) (by have h2 := laidMet.filter (fun x => x.1 == "internal/strconv.uint64pow10") h; rw [e] at h2; exact h2)
theorem tab_of_laidH {W : World} {l : List (String × DataW Unit)} (h : laidMetH Tryz.prog l W) (e : ((l.filter fun x => x.2.handleName?.isNone).filter fun x => x.1 == "internal/strconv.uint64pow10") = [("internal/strconv.uint64pow10", Rows.laid_internal_strconv_uint64pow10)] := by rfl) : Tab W :=
  tab_of_laid (laidMetH_iff.1 h).1 e
end Go.Proofs.YtnlbojckobgjpaaGreatDoor

/- What the listed variables hold, kept while memory grows; strconv.Atoi. -/
namespace Go.Proofs.YtnlbojckobgjpaaGreatDoor
open Go.RowKit Go.Lib
set_option maxRecDepth 100000
theorem var_step {w w' : World} {n : String} {cs : Array Value} (h : w.var? Tryz.prog n = some cs) (hb : Below w.heap.size w w') : w'.var? Tryz.prog n = some cs := by
  unfold World.var? at *
  cases hg : Tryz.prog.globalNamed n with
  | none => rw [hg] at h; cases h
  | some g =>
    rw [hg] at h
    simp only [Option.bind_some] at *
    have hlt : g < w.heap.size := by
      rcases Nat.lt_or_ge g w.heap.size with h' | h'
      · exact h'
      · simp [Array.getElem?_eq_none h'] at h
    rw [hb.block _ hlt]
    exact h
end Go.Proofs.YtnlbojckobgjpaaGreatDoor

/- allWithin: every element of a slice of ints lies in a range. -/
namespace Go.Proofs.YtnlbojckobgjpaaGreatDoor
open Go.RowKit
def allIn (l : List Int) (lo hi : Int) : Bool := l.all fun x => inB x lo hi
theorem allIn_take {l : List Int} {lo hi : Int} {k : Nat} (h : allIn (l.take k) lo hi = true) (hk : k < l.length) (e : inB l[k] lo hi = true) : allIn (l.take (k + 1)) lo hi = true := by
  unfold allIn at *
  rw [List.take_succ_eq_append_getElem hk, List.all_append, h]
  simp [e]
theorem allIn_false {l : List Int} {lo hi : Int} {k : Nat} (hk : k < l.length) (e : inB l[k] lo hi = false) : allIn l lo hi = false := by
  unfold allIn
  rw [List.all_eq_false]
  exact ⟨l[k], List.getElem_mem hk, by simp [e]⟩
theorem allIn_get {l : List Int} {lo hi : Int} (h : allIn l lo hi = true) {k : Nat} (hk : k < l.length) : lo ≤ l[k] ∧ l[k] ≤ hi := by
  unfold allIn at h
  rw [List.all_eq_true] at h
  exact inB_true (h _ (List.getElem_mem hk))
set_option maxHeartbeats 400000 in
theorem I_allWithin (A : Option Addr) (c : Nat) (l : List Int) (lo hi : Int) (w : World) (h : RS w 1 A l.length c (ints l)) :
    Calls Tryz.prog 35 #[.slice A l.length c, .int .i64 lo, .int .i64 hi] w fun e w' => e = .returned (.bool (allIn l lo hi)) ∧ w = w' := by
  obtain ⟨hn, hc, hr⟩ := h.open_
  unfold maxLen at hc
  clear h
  have HR := Lib.hid hr
  clear hr
  go_enter Tryz.func35, Tryz.ntmps35
  go_wp2
  go_loop [8, 11] (fun _ i => ∃ k : Nat, k ≤ l.length ∧ i = .int .i64 k ∧ allIn (l.take k) lo hi = true) (fun _ i => l.length - (intOf i).toNat)
  case atStart => exact ⟨0, Nat.zero_le _, rfl, rfl⟩
  case round =>
    obtain ⟨k, hk, rfl, ht⟩ := hrel
    have HT := Lib.hid ht
    clear ht
    by_cases hlt : k < l.length
    · obtain ⟨b, o, rfl, hbh, hcell⟩ := HR.out (by omega)
      have c1 : w.cell? ⟨b, o + k, none⟩ = some (.int .i64 l[k]) := by rw [hcell k (by omega), ints_at hlt]
      clear hcell
      by_cases hin : inB l[k] lo hi = true
      · go_wp2_with (go_at_call 37; refine (I_within _ _ _ _).mono ?_; rintro e w' ⟨rfl, rfl⟩)
        go_round
        case rel => exact ⟨k + 1, by omega, by go_num, allIn_take HT.out hlt hin⟩
        case measure => simp [intOf]; omega
      · have hin' : inB l[k] lo hi = false := by simpa using hin
        go_wp2_with (go_at_call 37; refine (I_within _ _ _ _).mono ?_; rintro e w' ⟨rfl, rfl⟩)
        go_ret
        exact ⟨ret_bool (allIn_false hlt hin').symm, rfl⟩
    · go_wp2
      go_ret
      obtain rfl : k = l.length := by omega
      exact ⟨ret_bool (by have := HT.out; rw [List.take_of_length_le (Nat.le_refl _)] at this; exact this.symm), rfl⟩
theorem quiet_same {P : Program} {f : FuncId} {args : Array Value} {w : World} {n : Nat} {v : Value}
    (h : Calls P f args (w.drewN n) fun e w' => e = .returned v ∧ w.drewN n = w') : Calls P f args (w.drewN n) fun e w'' => e = .returned v ∧ ∃ m, w'' = w.drewN m :=
  h.mono fun _ _ ⟨he, hm⟩ => ⟨he, n, hm.symm⟩
theorem quiet_same0 {P : Program} {f : FuncId} {args : Array Value} {w : World} {v : Value}
    (h : Calls P f args w fun e w' => e = .returned v ∧ w = w') : Calls P f args w fun e w'' => e = .returned v ∧ ∃ m, w'' = w.drewN m :=
  h.mono fun _ _ ⟨he, hm⟩ => ⟨he, 0, hm.symm⟩
/-- The side of a texture. -/
def sideF (log : Int) : Int := if log = 0 then 1 else if log = 1 then 2 else if log = 2 then 4 else if log = 3 then 8 else 16
theorem log_cases {log : Int} (h : inB log 0 4 = true) : log = 0 ∨ log = 1 ∨ log = 2 ∨ log = 3 ∨ log = 4 := by have := inB_true h; omega
def validTex (log : Int) (l : List Int) : Bool := inB log 0 4 && (decide ((l.length : Int) = sideF log * sideF log) && allIn l 0 256)
end Go.Proofs.YtnlbojckobgjpaaGreatDoor

/- Join, of the reference and of the program; rows of strings. -/
namespace Go.Proofs.YtnlbojckobgjpaaGreatDoor
open Go.RowKit Go.Lib
set_option maxRecDepth 100000
abbrev strs (ls : List (List UInt8)) : List Value := ls.map str
theorem strs_at {ls : List (List UInt8)} {k : Nat} (h : k < ls.length) : (strs ls)[k]? = some (str ls[k]) := by simp [h]
theorem strs_len (ls : List (List UInt8)) : (strs ls).length = ls.length := by simp
theorem strs_snoc (a : List (List UInt8)) (b : List UInt8) : strs a ++ strs [b] = strs (a ++ [b]) := by simp
theorem strs_one (ls : List (List UInt8)) : ∀ u ∈ strs ls, u.oneCell' = true := by
  intro u hu
  obtain ⟨x, _, rfl⟩ := List.mem_map.1 hu
  rfl
theorem T.infoString : (Tryz.prog.info? 9).map (fun i => (i.zero, i.size, i.bytes)) = some (some (.string ByteArray.empty), 1, 16) := by kernel_rfl
theorem join_take {ls : List (List UInt8)} {sep : List UInt8} {k : Nat} (h : k < ls.length) (hk : 0 < k) : join (ls.take (k + 1)) sep = join (ls.take k) sep ++ sep ++ ls[k] := by
  cases ls with
  | nil => cases h
  | cons a t =>
    obtain ⟨j, rfl⟩ : ∃ j, k = j + 1 := ⟨k - 1, by omega⟩
    have hj : j < t.length := by simpa using h
    simp only [List.take_succ_cons, join_cons, List.getElem_cons_succ]
    rw [joinTail_take_succ sep t j t[j] (List.getElem?_eq_getElem hj)]
    simp [List.append_assoc]
theorem join_take_one {ls : List (List UInt8)} {sep : List UInt8} (h : 0 < ls.length) : join (ls.take 1) sep = ls[0] := by
  cases ls with
  | nil => cases h
  | cons a t => simp [join_one]
theorem join_take_le (ls : List (List UInt8)) (sep : List UInt8) (k : Nat) : (join (ls.take k) sep).length ≤ (join ls sep).length := by
  cases ls with
  | nil => simp
  | cons a t =>
    cases k with
    | zero => simp [join_nil]
    | succ k =>
      rw [List.take_succ_cons, join_cons, join_cons, List.length_append, List.length_append]
      have : (joinTail sep (t.take k)).length ≤ (joinTail sep t).length := by
        have e : joinTail sep t = joinTail sep (t.take k) ++ joinTail sep (t.drop k) := by
          unfold joinTail
          rw [← List.flatten_append, ← List.map_append, List.take_append_drop]
        rw [e, List.length_append]; omega
      omega
set_option maxHeartbeats 4000000 in
theorem I_Join {A : Option Addr} {c : Nat} {ls : List (List UInt8)} {sep : List UInt8} (w : World) (h : RS w 1 A ls.length c (strs ls)) (hpos : 0 < ls.length) (hn47 : ls.length ≤ 1000000) (hlen : (join ls sep).length ≤ 140737488355328) :
    Calls Tryz.prog 42 #[.slice A ls.length c, str sep] w fun e w' => e = .returned (str (join ls sep)) ∧ Below w.heap.size w w' := by
  obtain ⟨hn, hc, hr⟩ := h.open_
  obtain ⟨b, o, rfl, hbh, hcell⟩ := hr (by omega)
  have e1 : (ls.map fun x => (⟨x.toArray⟩ : ByteArray)).map (fun x => x.data.toList) = ls := by
    rw [List.map_map]; simp [Function.comp_def]
  have HC : Hid (Calls Tryz.prog 95 #[.slice (some ⟨b, o, none⟩) ls.length c, str sep] w fun e w' => e = .returned (str (join ls sep)) ∧ Below w.heap.size w w') := Lib.hid (by
    have h0 := Tryz.strings_Join b o c (ls.map fun x => (⟨x.toArray⟩ : ByteArray)) ⟨sep.toArray⟩ w (fun j x hj => by
      rw [List.getElem?_map] at hj
      cases hg : ls[j]? with
      | none => rw [hg] at hj; cases hj
      | some y =>
        rw [hg] at hj
        obtain rfl := Option.some.inj hj
        have hj' := (List.getElem?_eq_some_iff.1 hg)
        obtain ⟨hj1, hj2⟩ := hj'
        rw [hcell j (by omega), strs_at hj1, hj2]) hbh (by rw [List.length_map]; omega) (by rw [List.length_map]; omega) (by rw [e1]; exact hlen)
    rw [e1, List.length_map] at h0
    exact h0)
  have hJA : Calls Tryz.prog 68 #[str sep, .slice (some ⟨b, o, none⟩) ls.length c] w fun e w' => e = .returned (str (join ls sep)) ∧ Below w.heap.size w w' := by
    clear hcell hr e1 h hlen
    go_enter Tryz.func68, Tryz.ntmps68
    go_wp2_with fail
    refine HC.out.mono ?_
    rintro e w' ⟨rfl, hb⟩
    go_wp2_with fail
    go_ret
    exact ⟨rfl, hb⟩
  have HJ := Lib.hid hJA
  clear hcell hr e1 h hlen hJA HC
  go_enter Tryz.func42, Tryz.ntmps42
  go_wp2_with fail
  refine HJ.out.mono ?_
  rintro e w' ⟨rfl, hb⟩
  go_wp2_with fail
  go_ret
  exact ⟨rfl, hb⟩
end Go.Proofs.YtnlbojckobgjpaaGreatDoor
