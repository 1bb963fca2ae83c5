/- Several texts in one: LawD, TxtF, TxtE, Within, TxtJ. -/
import Derived.Test.YtjipfgadamokaaaGreatDoorMgA
import Derived.LaidLaws
import Derived.Handed
import Derived.SevenTiedAt
import Derived.SizedLaws
import Derived.Stop.LaidErr
import Derived.Test.YtjipfgadamokaaaGreatDoorTie
import Derived.Test.YtjipfgadamokaaaGreatDoorCards
import Derived.Test.YtjipfgadamokaaaGreatDoorShelfD
/- The frame of a law's statement where the row lists package-level variables: from the walk to the row. -/
set_option linter.unusedVariables false
set_option linter.unusedSimpArgs false
namespace Go.Proofs.YtjipfgadamokaaaGreatDoor
open Go.ChangeShapes Go.WideShapes Go.ChangeAt Go.RowKit
/-- What a law's walk shows of its arguments' values; what the listed variables hold is told. -/
def LawWalkD (laid : List (String × DataW Unit)) (F : FuncId) (ts : List TypeId) : Prop :=
  ∀ (H : Type) (enc : TypeId × Value → H) (W : World) (base : Nat) (args : Array Value) (ds : List (DataW H)) (ps : List MemPlace),
    DataW.TrodAll enc Tryz.prog W 0 (fun _ => true) true ts args.toList ds ps → (∀ (j : Nat) t v, ts[j]? = some t → args[j]? = some v → Value.okWide Tryz.prog W .any base t v) → (∀ x ∈ ps, x.block < W.heap.size) →
    (DataW.weightsEach Tryz.prog ts ds).all (· ≤ reachBytes) = true → laidMet Tryz.prog laid W → W.ShapedOpen Tryz.prog →
    Calls Tryz.prog F args W fun e W' => e = .returned (.bool true) ∧ Below W.heap.size W W'

set_option maxRecDepth 100000 in
theorem law_liftedD (laid : List (String × DataW Unit)) (F : FuncId) (fn : Func) (s : ChangeSpec) (ts : List TypeId) (os : Os) (started : os.Started) (H : Type) (enc : TypeId × Value → H)
    (hfn : Tryz.checked.prog.funcs[F]? = some fn) (hidx : Tryz.checked.prog.inits.idxOf? F = none) (hp : fn.params = ⟨ts⟩) (hr : fn.resultTypes = #[4]) (hv : s.vars = [])
    (hs : ∀ ds : List (DataW H), ds.length = ts.length → (s.fn H (ds ++ [])).results = [.lit (.bool true)] ∧ (s.fn H (ds ++ [])).args = ds ∧ (s.fn H (ds ++ [])).vars = [])
    (hread : ∀ t ∈ ts, Tryz.prog.readableRec t = true ∧ t < Tryz.prog.types.size)
    (hwit : ∃ (w : World) (tape : Tape) (i : Input), w.os = os ∧ (w.forCall tape i).Shaped Tryz.checked.prog ∧ i.vars = [] ∧ Input.okWide Tryz.checked.prog (w.forCall tape i) .any w.heap.size F i ∧
      ((s.pre enc Tryz.checked.prog fn [] false (w.forCall tape i).memory i.args ∧ laidMet Tryz.prog laid (w.forCall tape i).memory) ∧ sizedMet enc Tryz.checked.prog fn (OpenSpec.ofChange s) false (w.forCall tape i).memory i.args) ∧ Assume.holds {} Tryz.checked.prog (lone (Frame.enter Tryz.checked.prog F i.args .normal) [] (w.forCall tape i)))
    (hw : LawWalkD laid F ts) :
    ReturnsInHanded {} Tryz.checked os F .any (fun w args => (s.pre enc Tryz.prog fn [] false w args ∧ laidMet Tryz.prog laid w) ∧ sizedMet enc Tryz.prog fn (OpenSpec.ofChange s) false w args) (s.post enc Tryz.prog fn false true false false) := by
  refine returnsInHanded_of_calls (C := Tryz.checked) P.own started hidx hwit ?_
  intro w0 tape0 i0 _ hsh _ hok hpre _
  obtain ⟨_, _, _, fn', hfn', _, _, _, _, hval00⟩ := hok
  obtain rfl : fn' = fn := Option.some.inj (hfn'.symm.trans hfn)
  obtain ⟨⟨⟨ds, gs, before, hW0, hcnd⟩, hL0⟩, hz⟩ := hpre
  have hsz0 := hz.weights hW0
  suffices hgo : Calls Tryz.prog F i0.args (w0.forCall tape0 i0) fun e W' => ∃ v, e = .returned v ∧ s.post enc Tryz.prog fn' false true false false (w0.forCall tape0 i0) i0.args v W' from
    hgo.mono fun e W' ⟨v, he, hp⟩ => by subst he; exact ChangeSpec.post_blind hp
  have hW := DataW.Whole.of_heap (w' := w0.forCall tape0 i0) (by rfl) hW0
  have hL : laidMet Tryz.prog laid (w0.forCall tape0 i0) := laidMet.of_heap (by rfl) hL0
  have hval0 := hval00
  clear hW0 hL0 hval00 hz
  generalize hWW : w0.forCall tape0 i0 = W at *
  generalize hAA : i0.args = args at *
  generalize hBB : w0.heap.size = base at *
  clear hWW hAA hBB
  have hval : ∀ (j : Nat) t v, fn'.params[j]? = some t → args[j]? = some v → Value.okWide Tryz.prog W .any base t v := hval0
  have hW' := hW
  obtain ⟨p, q, hA0, hV, rfl, hfz, hnd⟩ := hW
  have hA : DataW.TrodAll enc Tryz.prog W 0 (fun _ => true) true fn'.params.toList args.toList ds p := hA0
  rw [hv] at hV
  obtain ⟨rfl, rfl⟩ := trodVars_none hV
  have hsz : (DataW.weightsEach Tryz.prog ts ds).all (· ≤ reachBytes) = true := by
    have e : s.plain.varTypes Tryz.prog = [] := by
      have : s.plain.vars = [] := hv
      simp [DataSpec.varTypes, this]
    have h0 : (DataW.weightsEach Tryz.prog (fn'.params.toList ++ s.plain.varTypes Tryz.prog) (ds ++ [])).all (· ≤ reachBytes) = true := hsz0
    rw [e, hp] at h0
    simpa using h0
  rw [hp] at hA hval
  have hlt : ∀ x ∈ p, x.block < W.heap.size := fun x hx => hW'.lt x (by simp [hx])
  have hl : ds.length = ts.length := trodAll_len ts _ _ _ hA
  obtain ⟨e1, e2, e3⟩ := hs ds hl
  simp only [List.append_nil] at hW'
  refine (hw H enc W base args ds p hA (fun j t v h1 h2 => hval j t v (by simpa using h1) h2) hlt hsz hL hsh).mono fun e W' ⟨he, bel⟩ => ?_
  subst he
  refine ⟨_, rfl, _, _, _, [], p, [], hW', ?_, ?_, ?_, bel.frame _, fun h => by cases h⟩
  · rw [e1, hr]
    exact trodAll_mk1 (shut_bool Tryz.underlying4 _)
  · rw [e2, hp]
    exact trodAll_below ts _ _ _ hread hA bel hlt
  · rw [e3, hv]
    rfl
/-- A start that fits: the variables as their initialisers lay them. -/
def layCells (cs : Array Value) : Obj → Obj
  | .cells _ t frozen => .cells cs t frozen
  | o => o
def litOne : DataW Unit → List Value
  | .lit (.int k z) => [Value.int k z]
  | .agg l => l.flatMap fun | .lit (.int k z) => [Value.int k z] | _ => [.nilIface]
  | _ => [.nilIface]
def litCells : DataW Unit → Array Value
  | .agg l => (l.flatMap litOne).toArray
  | _ => #[]
noncomputable def laidWorld (os : Os) : World :=
  let w0 := World.holding Tryz.prog os ⟨#[], #[], []⟩
  { w0 with heap := ((((w0.heap.modify 3 (layCells (litCells Rows.laid_internal_strconv_uint64pow10))).modify 4 (layCells (litCells Rows.laid_math_bits_deBruijn32tab))).modify 5 (layCells (litCells Rows.laid_math_bits_deBruijn64tab))).modify 2 (layCells (litCells Rows.laid_unicode_utf8_acceptRanges))).modify 1 (layCells (litCells Rows.laid_unicode_utf8_first)) }
end Go.Proofs.YtjipfgadamokaaaGreatDoor

/- Texts of integers, of either sign: the reference's FormatInt and the program's (strconv.Itoa by the shelf's contract: its table lies in a package-level variable). -/
namespace Go.Proofs.YtjipfgadamokaaaGreatDoor
open Go.RowKit Go.Lib
set_option maxRecDepth 100000
set_option maxHeartbeats 4000000 in
theorem S_FormatInt (n : Int) (w : World) :
    Calls Tryz.prog 30 #[.int .i64 n] w fun e w' => e = .returned (str (fmtI n)) ∧ Below w.heap.size w w' := by
  by_cases hn : inNum n
  · obtain ⟨h1, h2⟩ := hn
    by_cases h0 : n < 0
    · have hi : inB n (-1000000000) 1000000000 = true := inB_mk (by omega) (by omega)
      obtain ⟨m, hm⟩ : ∃ m : Nat, -n = m := ⟨n.natAbs, by omega⟩
      have hw : IntKind.i64.wrap (-n) = (m : Int) := by rw [hm]; exact IntWalk.i64_in _ (by omega)
      have hf : fmtI n = 45 :: decDigits m := by
        rw [fmtI_in ⟨h1, h2⟩]; unfold itoa; rw [if_pos h0, show n.natAbs = m by omega]
      have HF := Lib.hid hf
      have hm9 : m ≤ 1000000000 := by omega
      have hsl : ¬ 9223372036854775807 < 1 + (decDigits m).length := by
        rw [decDigits_length]; have := nDigits_le 9 m (by omega); omega
      clear hf
      go_enter Tryz.func30, Tryz.ntmps30
      go_wp2_with (first | (go_at_call 29; refine (S_in _ _ _ _).mono ?_; rw [hi]; rintro e w' ⟨rfl, rfl⟩) | fail)
      (try rw [hw])
      refine (S_FormatInt_nat m hm9 _).mono ?_
      rintro e w' ⟨rfl, hb⟩
      go_wp2_with fail
      go_ret
      refine ⟨?_, (by repeat (first | (with_reducible exact Below.refl _ _) | (with_reducible assumption) | ((with_reducible refine Below.alloc ?_ ?_ _); rotate_left; (first | omega | (simp <;> omega))) | ((with_reducible refine Below.setCell ?_ ?_ _); rotate_left; (first | omega | (simp <;> omega))) | (with_reducible refine below_drewN ?_ _) | (with_reducible refine Below.drew ?_) | ((with_reducible refine Below.step (by assumption) ?_ ?_); rotate_left; (first | omega | (simp <;> omega)))))⟩
      rw [HF.out]
      show Ending.returned (Value.string (({ data := [45].toArray } : ByteArray) ++ { data := (decDigits m).toArray })) = _
      rw [str_cat]; rfl
    · obtain ⟨m, rfl⟩ : ∃ m : Nat, n = m := ⟨n.toNat, by omega⟩
      have e : fmtI (m : Int) = decDigits m := by
        rw [fmtI_in ⟨h1, h2⟩]; unfold itoa; rw [if_neg h0]; rfl
      rw [e]
      exact S_FormatInt_nat m (by omega) w
  · have hi : inB n (-1000000000) 1000000000 = false := by
      cases h : inB n (-1000000000) 1000000000 with
      | false => rfl
      | true => exact absurd (inB_true h) hn
    have HF := Lib.hid (fmtI_out hn)
    clear hn
    go_enter Tryz.func30, Tryz.ntmps30
    go_wp2_with (first | (go_at_call 29; refine (S_in _ _ _ _).mono ?_; rw [hi]; rintro e w' ⟨rfl, rfl⟩) | fail)
    go_ret
    exact ⟨by rw [HF.out]; rfl, (by repeat (first | (with_reducible exact Below.refl _ _) | (with_reducible assumption) | ((with_reducible refine Below.alloc ?_ ?_ _); rotate_left; (first | omega | (simp <;> omega))) | ((with_reducible refine Below.setCell ?_ ?_ _); rotate_left; (first | omega | (simp <;> omega))) | (with_reducible refine below_drewN ?_ _) | (with_reducible refine Below.drew ?_) | ((with_reducible refine Below.step (by assumption) ?_ ?_); rotate_left; (first | omega | (simp <;> omega)))))⟩
/-- The table of powers that strconv.Itoa reads. -/
def Tab (w : World) : Prop := TabIs Tryz.prog w "internal/strconv.uint64pow10" .u64 pow10Tab
theorem Tab.step {w w' : World} (h : Tab w) (hb : Below w.heap.size w w') : Tab w' := by
  unfold Tab TabIs World.var? at *
  rw [show Tryz.prog.globalNamed "internal/strconv.uint64pow10" = some 3 by kernel_rfl] at *
  simp only [Option.bind_some] at *
  have hlt : 3 < w.heap.size := by
    rcases Nat.lt_or_ge 3 w.heap.size with h' | h'
    · exact h'
    · simp [Array.getElem?_eq_none h'] at h
  rw [hb.block _ hlt]
  exact h
theorem Tab.trans {B : Nat} {w w' : World} (h : Tab w) (hb : Below B w w') (hB : B = w.heap.size) : Tab w' := h.step (hB ▸ hb)
theorem below_grow {w : World} (k : Nat) (os : Array Obj) : Below w.heap.size w (Sort.grow (w.drewN k) os) :=
  ⟨rfl, rfl, rfl, by simp [Sort.grow, World.drewN], fun j hj => by
    show (w.heap ++ os)[j]? = w.heap[j]?
    rw [Array.getElem?_append_left hj]⟩
set_option maxHeartbeats 4000000 in
theorem I_FormatInt (n : Int) (w : World) (ht : Tab w) :
    Calls Tryz.prog 32 #[.int .i64 n] w fun e w' => e = .returned (str (fmtI n)) ∧ Below w.heap.size w w' := by
  by_cases hn : inNum n
  · have h1 : ¬ n < -1000000000 := by have := hn.1; omega
    have h2 : ¬ 1000000000 < n := by have := hn.2; omega
    have HF := Lib.hid (fmtI_in hn)
    clear hn
    go_enter Tryz.func32, Tryz.ntmps32
    go_wp2_with fail
    refine (Tryz.strconv_Itoa n (by omega) (by omega) _ ht).mono ?_
    rintro e w' ⟨rfl, k, os, rfl⟩
    go_wp2_with fail
    go_ret
    exact ⟨by rw [HF.out]; rfl, below_grow k os⟩
  · have HF := Lib.hid (fmtI_out hn)
    by_cases h1 : n < -1000000000
    · clear hn
      go_enter Tryz.func32, Tryz.ntmps32
      go_wp2_with fail
      go_ret
      exact ⟨by rw [HF.out]; rfl, (by repeat (first | (with_reducible exact Below.refl _ _) | (with_reducible assumption) | ((with_reducible refine Below.alloc ?_ ?_ _); rotate_left; (first | omega | (simp <;> omega))) | ((with_reducible refine Below.setCell ?_ ?_ _); rotate_left; (first | omega | (simp <;> omega))) | (with_reducible refine below_drewN ?_ _) | (with_reducible refine Below.drew ?_) | ((with_reducible refine Below.step (by assumption) ?_ ?_); rotate_left; (first | omega | (simp <;> omega)))))⟩
    · have h2 : 1000000000 < n := by unfold inNum at hn; omega
      clear hn
      go_enter Tryz.func32, Tryz.ntmps32
      go_wp2_with fail
      go_ret
      exact ⟨by rw [HF.out]; rfl, (by repeat (first | (with_reducible exact Below.refl _ _) | (with_reducible assumption) | ((with_reducible refine Below.alloc ?_ ?_ _); rotate_left; (first | omega | (simp <;> omega))) | ((with_reducible refine Below.setCell ?_ ?_ _); rotate_left; (first | omega | (simp <;> omega))) | (with_reducible refine below_drewN ?_ _) | (with_reducible refine Below.drew ?_) | ((with_reducible refine Below.step (by assumption) ?_ ?_); rotate_left; (first | omega | (simp <;> omega)))))⟩
theorem tab_of_laid {W : World} {rest : List (String × DataW Unit)} {a b : String × DataW Unit} (h : laidMet Tryz.prog (a :: b :: ("internal/strconv.uint64pow10", Rows.laid_internal_strconv_uint64pow10) :: rest) W) : Tab W :=
  tabIs_of_head (k := .u64) (zs := pow10Tab) (rest := rest) (e := 185) (n := 20) (show Tryz.prog.globalNamed "internal/strconv.uint64pow10" = some 3 by kernel_rfl) (show (Tryz.prog.globals[3]?).map (·.type) = some 202 by kernel_rfl) Tryz.underlying202 Tryz.underlying185 (by kernel_rfl) (by kernel_rfl) h.tail.tail
end Go.Proofs.YtjipfgadamokaaaGreatDoor

/- What the listed variables hold, kept while memory grows; strconv.Atoi. -/
namespace Go.Proofs.YtjipfgadamokaaaGreatDoor
open Go.RowKit Go.Lib
set_option maxRecDepth 100000
theorem var_step {w w' : World} {n : String} {cs : Array Value} (h : w.var? Tryz.prog n = some cs) (hb : Below w.heap.size w w') : w'.var? Tryz.prog n = some cs := by
  unfold World.var? at *
  cases hg : Tryz.prog.globalNamed n with
  | none => rw [hg] at h; cases h
  | some g =>
    rw [hg] at h
    simp only [Option.bind_some] at *
    have hlt : g < w.heap.size := by
      rcases Nat.lt_or_ge g w.heap.size with h' | h'
      · exact h'
      · simp [Array.getElem?_eq_none h'] at h
    rw [hb.block _ hlt]
    exact h
end Go.Proofs.YtjipfgadamokaaaGreatDoor

/- allWithin: every element of a slice of ints lies in a range. -/
namespace Go.Proofs.YtjipfgadamokaaaGreatDoor
open Go.RowKit
def allIn (l : List Int) (lo hi : Int) : Bool := l.all fun x => inB x lo hi
theorem allIn_take {l : List Int} {lo hi : Int} {k : Nat} (h : allIn (l.take k) lo hi = true) (hk : k < l.length) (e : inB l[k] lo hi = true) : allIn (l.take (k + 1)) lo hi = true := by
  unfold allIn at *
  rw [List.take_succ_eq_append_getElem hk, List.all_append, h]
  simp [e]
theorem allIn_false {l : List Int} {lo hi : Int} {k : Nat} (hk : k < l.length) (e : inB l[k] lo hi = false) : allIn l lo hi = false := by
  unfold allIn
  rw [List.all_eq_false]
  exact ⟨l[k], List.getElem_mem hk, by simp [e]⟩
theorem allIn_get {l : List Int} {lo hi : Int} (h : allIn l lo hi = true) {k : Nat} (hk : k < l.length) : lo ≤ l[k] ∧ l[k] ≤ hi := by
  unfold allIn at h
  rw [List.all_eq_true] at h
  exact inB_true (h _ (List.getElem_mem hk))
set_option maxHeartbeats 400000 in
theorem I_allWithin (A : Option Addr) (c : Nat) (l : List Int) (lo hi : Int) (w : World) (h : RS w 1 A l.length c (ints l)) :
    Calls Tryz.prog 83 #[.slice A l.length c, .int .i64 lo, .int .i64 hi] w fun e w' => e = .returned (.bool (allIn l lo hi)) ∧ w = w' := by
  obtain ⟨hn, hc, hr⟩ := h.open_
  unfold maxLen at hc
  clear h
  have HR := Lib.hid hr
  clear hr
  go_enter Tryz.func83, Tryz.ntmps83
  go_wp2
  go_loop [8, 11] (fun _ i => ∃ k : Nat, k ≤ l.length ∧ i = .int .i64 k ∧ allIn (l.take k) lo hi = true) (fun _ i => l.length - (intOf i).toNat)
  case atStart => exact ⟨0, Nat.zero_le _, rfl, rfl⟩
  case round =>
    obtain ⟨k, hk, rfl, ht⟩ := hrel
    have HT := Lib.hid ht
    clear ht
    by_cases hlt : k < l.length
    · obtain ⟨b, o, rfl, hbh, hcell⟩ := HR.out (by omega)
      have c1 : w.cell? ⟨b, o + k, none⟩ = some (.int .i64 l[k]) := by rw [hcell k (by omega), ints_at hlt]
      clear hcell
      by_cases hin : inB l[k] lo hi = true
      · go_wp2_with (go_at_call 31; refine (I_within _ _ _ _).mono ?_; rintro e w' ⟨rfl, rfl⟩)
        go_round
        case rel => exact ⟨k + 1, by omega, by go_num, allIn_take HT.out hlt hin⟩
        case measure => simp [intOf]; omega
      · have hin' : inB l[k] lo hi = false := by simpa using hin
        go_wp2_with (go_at_call 31; refine (I_within _ _ _ _).mono ?_; rintro e w' ⟨rfl, rfl⟩)
        go_ret
        exact ⟨ret_bool (allIn_false hlt hin').symm, rfl⟩
    · go_wp2
      go_ret
      obtain rfl : k = l.length := by omega
      exact ⟨ret_bool (by have := HT.out; rw [List.take_of_length_le (Nat.le_refl _)] at this; exact this.symm), rfl⟩
end Go.Proofs.YtjipfgadamokaaaGreatDoor

/- Join, of the reference and of the program; rows of strings. -/
namespace Go.Proofs.YtjipfgadamokaaaGreatDoor
open Go.RowKit Go.Lib
set_option maxRecDepth 100000
abbrev strs (ls : List (List UInt8)) : List Value := ls.map str
theorem strs_at {ls : List (List UInt8)} {k : Nat} (h : k < ls.length) : (strs ls)[k]? = some (str ls[k]) := by simp [h]
theorem strs_len (ls : List (List UInt8)) : (strs ls).length = ls.length := by simp
theorem strs_snoc (a : List (List UInt8)) (b : List UInt8) : strs a ++ strs [b] = strs (a ++ [b]) := by simp
theorem strs_one (ls : List (List UInt8)) : ∀ u ∈ strs ls, u.oneCell' = true := by
  intro u hu
  obtain ⟨x, _, rfl⟩ := List.mem_map.1 hu
  rfl
theorem T.infoString : (Tryz.prog.info? 9).map (fun i => (i.zero, i.size, i.bytes)) = some (some (.string ByteArray.empty), 1, 16) := by kernel_rfl
theorem join_take {ls : List (List UInt8)} {sep : List UInt8} {k : Nat} (h : k < ls.length) (hk : 0 < k) : join (ls.take (k + 1)) sep = join (ls.take k) sep ++ sep ++ ls[k] := by
  cases ls with
  | nil => cases h
  | cons a t =>
    obtain ⟨j, rfl⟩ : ∃ j, k = j + 1 := ⟨k - 1, by omega⟩
    have hj : j < t.length := by simpa using h
    simp only [List.take_succ_cons, join_cons, List.getElem_cons_succ]
    rw [joinTail_take_succ sep t j t[j] (List.getElem?_eq_getElem hj)]
    simp [List.append_assoc]
theorem join_take_one {ls : List (List UInt8)} {sep : List UInt8} (h : 0 < ls.length) : join (ls.take 1) sep = ls[0] := by
  cases ls with
  | nil => cases h
  | cons a t => simp [join_one]
theorem join_take_le (ls : List (List UInt8)) (sep : List UInt8) (k : Nat) : (join (ls.take k) sep).length ≤ (join ls sep).length := by
  cases ls with
  | nil => simp
  | cons a t =>
    cases k with
    | zero => simp [join_nil]
    | succ k =>
      rw [List.take_succ_cons, join_cons, join_cons, List.length_append, List.length_append]
      have : (joinTail sep (t.take k)).length ≤ (joinTail sep t).length := by
        have e : joinTail sep t = joinTail sep (t.take k) ++ joinTail sep (t.drop k) := by
          unfold joinTail
          rw [← List.flatten_append, ← List.map_append, List.take_append_drop]
        rw [e, List.length_append]; omega
      omega
set_option maxHeartbeats 4000000 in
theorem S_Join {A : Option Addr} {c : Nat} {ls : List (List UInt8)} {sep : List UInt8} (w : World) (h : RS w 1 A ls.length c (strs ls)) (hlen : (join ls sep).length ≤ 140737488355328) (hsep : sep.length ≤ 1000) :
    Calls Tryz.prog 44 #[.slice A ls.length c, str sep] w fun e w' => e = .returned (str (join ls sep)) ∧ w = w' := by
  obtain ⟨hn, hc, hr⟩ := h.open_
  unfold maxLen at hc
  clear h
  have HR := Lib.hid hr
  clear hr
  have HL := Lib.hid (fun k => Nat.le_trans (join_take_le ls sep k) hlen)
  clear hlen
  go_enter Tryz.func44, Tryz.ntmps44
  go_wp2_with fail
  go_loop [5, 6, 7, 10] (fun v _ _ i => ∃ k : Nat, k ≤ ls.length ∧ i = .int .i64 k ∧ v = str (join (ls.take k) sep)) (fun _ _ _ i => ls.length - (RowKit.intOf i).toNat)
  case atStart => exact ⟨0, Nat.zero_le _, rfl, rfl⟩
  case round =>
    obtain ⟨k, hk, rfl, rfl⟩ := hrel
    by_cases hlt : k < ls.length
    · obtain ⟨b, o, rfl, hbh, hcell⟩ := HR.out (by omega)
      have c1 : w.cell? ⟨b, o + k, none⟩ = some (str ls[k]) := by rw [hcell k (by omega), strs_at hlt]
      have hL1 := HL.out (k + 1)
      clear hcell
      by_cases hk0 : k = 0
      · subst hk0
        have HJ : Hid (join (ls.take (0 + 1)) sep = ls[0]) := Lib.hid (join_take_one hlt)
        have hL2 : ¬ 9223372036854775807 < ls[0].length := by have := HJ.out; rw [this] at hL1; omega
        have HJ0 : Hid (join (ls.take 0) sep = []) := Lib.hid rfl
        generalize hx : ls[0] = x at *
        rw [HJ0.out]
        have c1' : w.cell? ⟨b, o, none⟩ = some (str x) := c1
        clear hL1 hx c1
        rw [show ((0 : Nat) : Int) = 0 from rfl] at *
        go_wp2_with fail
        go_round
        case rel => exact ⟨1, by omega, by go_num, by rw [show (1 : Nat) = 0 + 1 from rfl, HJ.out]; first | rfl | exact congrArg Value.string (str_cat [] x)⟩
        case measure => simp [RowKit.intOf]; omega
      · have HJ : Hid (join (ls.take (k + 1)) sep = join (ls.take k) sep ++ sep ++ ls[k]) := Lib.hid (join_take hlt (by omega))
        have hk1 : (0 : Int) < k := by omega
        generalize hx : ls[k] = x at *
        generalize hy : join (ls.take k) sep = y at *
        have hL3 : y.length + sep.length + x.length ≤ 140737488355328 := by have := hL1; rw [HJ.out, List.length_append, List.length_append] at this; exact this
        have hL2 : ¬ 9223372036854775807 < y.length + sep.length := by omega
        have hL4 : ¬ 9223372036854775807 < y.length + sep.length + x.length := by omega
        have HX := Lib.hid hx
        have HY := Lib.hid hy
        clear hL1 hx hy hk0 hL3
        go_wp2_with fail
        go_round
        case rel => exact ⟨k + 1, by omega, by go_num, by rw [HJ.out]; show Value.string (({ data := y.toArray } : ByteArray) ++ { data := sep.toArray } ++ { data := x.toArray }) = _; rw [str_cat, str_cat]⟩
        case measure => simp [RowKit.intOf]; omega
    · obtain rfl : k = ls.length := by omega
      have HJ : Hid (join (ls.take ls.length) sep = join ls sep) := Lib.hid (by rw [List.take_length])
      rw [HJ.out]
      go_wp2_with fail
      go_ret
      exact ⟨rfl, rfl⟩
set_option maxHeartbeats 4000000 in
theorem I_Join {A : Option Addr} {c : Nat} {ls : List (List UInt8)} {sep : List UInt8} (w : World) (h : RS w 1 A ls.length c (strs ls)) (hpos : 0 < ls.length) (hn47 : ls.length ≤ 1000000) (hlen : (join ls sep).length ≤ 140737488355328) :
    Calls Tryz.prog 59 #[.slice A ls.length c, str sep] w fun e w' => e = .returned (str (join ls sep)) ∧ Below w.heap.size w w' := by
  obtain ⟨hn, hc, hr⟩ := h.open_
  obtain ⟨b, o, rfl, hbh, hcell⟩ := hr (by omega)
  have e1 : (ls.map fun x => (⟨x.toArray⟩ : ByteArray)).map (fun x => x.data.toList) = ls := by
    rw [List.map_map]; simp [Function.comp_def]
  have HC : Hid (Calls Tryz.prog 129 #[.slice (some ⟨b, o, none⟩) ls.length c, str sep] w fun e w' => e = .returned (str (join ls sep)) ∧ Below w.heap.size w w') := Lib.hid (by
    have h0 := Tryz.strings_Join b o c (ls.map fun x => (⟨x.toArray⟩ : ByteArray)) ⟨sep.toArray⟩ w (fun j x hj => by
      rw [List.getElem?_map] at hj
      cases hg : ls[j]? with
      | none => rw [hg] at hj; cases hj
      | some y =>
        rw [hg] at hj
        obtain rfl := Option.some.inj hj
        have hj' := (List.getElem?_eq_some_iff.1 hg)
        obtain ⟨hj1, hj2⟩ := hj'
        rw [hcell j (by omega), strs_at hj1, hj2]) hbh (by rw [List.length_map]; omega) (by rw [List.length_map]; omega) (by rw [e1]; exact hlen)
    rw [e1, List.length_map] at h0
    exact h0)
  have hJA : Calls Tryz.prog 93 #[str sep, .slice (some ⟨b, o, none⟩) ls.length c] w fun e w' => e = .returned (str (join ls sep)) ∧ Below w.heap.size w w' := by
    clear hcell hr e1 h hlen
    go_enter Tryz.func93, Tryz.ntmps93
    go_wp2_with fail
    refine HC.out.mono ?_
    rintro e w' ⟨rfl, hb⟩
    go_wp2_with fail
    go_ret
    exact ⟨rfl, hb⟩
  have HJ := Lib.hid hJA
  clear hcell hr e1 h hlen hJA HC
  go_enter Tryz.func59, Tryz.ntmps59
  go_wp2_with fail
  refine HJ.out.mono ?_
  rintro e w' ⟨rfl, hb⟩
  go_wp2_with fail
  go_ret
  exact ⟨rfl, hb⟩
end Go.Proofs.YtjipfgadamokaaaGreatDoor
