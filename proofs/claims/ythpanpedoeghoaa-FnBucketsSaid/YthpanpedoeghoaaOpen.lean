/- A law's arguments opened: what can be read as data is cells of a known make. -/
import Derived.Test.YthpanpedoeghoaaRows
import Derived.Test.YthpanpedoeghoaaMem
import Derived.Test.YthpanpedoeghoaaLaw
import Derived.Deep.Slices
import Derived.Deep.Fields
set_option linter.unusedVariables false
set_option linter.unusedSimpArgs false
set_option linter.unnecessarySimpa false
namespace Go.Proofs.Ythpanpedoeghoaa
open Go.ChangeShapes Go.WideShapes Go.ChangeAt Go.RowKit Go.Deep
open Go.ChangeMaps (open_string shut_string)
set_option linter.unusedVariables false
set_option maxRecDepth 100000

theorem T.cellInt : Try.prog.cellsOf 3 = 1 := by kernel_rfl
theorem T.cellBool : Try.prog.cellsOf 4 = 1 := by kernel_rfl
section
variable {H : Type} {enc : TypeId × Value → H} {W : World}

/-- The cells cs can be read as a datum of type t. -/
def Can (enc : TypeId × Value → H) (W : World) (t : TypeId) (cs : List Value) : Prop := ∃ fuel x, DataW.trod enc Try.prog W 0 (fun _ => true) true fuel t cs = some x
/-- An argument. -/
def Arg (enc : TypeId × Value → H) (W : World) (t : TypeId) (v : Value) : Prop := Can enc W t v.cells.toList ∧ ∃ base, Value.okWide Try.prog W .any base t v

theorem Can.int {t : TypeId} {k : IntKind} {cs : List Value} (h : Can enc W t cs) (ht : Try.prog.underlying t = some (.int k)) : ∃ n, cs = [.int k n] ∧ (Lit.int k n).wf = true := by
  obtain ⟨fuel, x, h⟩ := h
  obtain ⟨n, h1, _, h2⟩ := DataW.trod_int ht h
  exact ⟨n, h1, h2⟩
theorem Can.bool {t : TypeId} {cs : List Value} (h : Can enc W t cs) (ht : Try.prog.underlying t = some .bool) : ∃ b, cs = [.bool b] := by
  obtain ⟨fuel, x, h⟩ := h
  obtain ⟨b, h1, _⟩ := DataW.trod_bool ht h
  exact ⟨b, h1⟩
theorem Can.string {t : TypeId} {cs : List Value} (h : Can enc W t cs) (ht : Try.prog.underlying t = some .string) : ∃ s : ByteArray, cs = [.string s] ∧ s.size ≤ maxLen := by
  obtain ⟨fuel, x, h⟩ := h
  obtain ⟨s, h1, _, h2⟩ := DataW.trod_string ht h
  exact ⟨s, h1, h2⟩
theorem Can.field {t : TypeId} {fs : Array Field} {cs : List Value} (h : Can enc W t cs) (ht : Try.prog.underlying t = some (.struct fs)) (i : Nat) (f : Field) (hf : fs[i]? = some f) :
    Can enc W f.type ((cs.drop f.offset).take (Try.prog.cellsOf f.type)) := by
  obtain ⟨fuel, x, h⟩ := h
  obtain ⟨xs, n, _, hx, hl, hlen, hg⟩ := DataW.trod_struct ht h
  have h1 := hg i f hf
  have hi : i < xs.length := by rw [hlen]; exact (Array.getElem?_eq_some_iff.1 hf).1
  rw [List.getElem?_eq_getElem hi] at h1
  exact ⟨n, _, h1⟩
/-- One field, by its number, type, offset and number of cells. -/
theorem Can.fieldAt {t : TypeId} {fs : Array Field} {cs : List Value} (h : Can enc W t cs) (ht : Try.prog.underlying t = some (.struct fs)) (i : Nat) (ty off n : Nat) (hf : (fs[i]?).map (fun f => (f.type, f.offset)) = some (ty, off)) (hn : Try.prog.cellsOf ty = n) :
    Can enc W ty ((cs.drop off).take n) := by
  obtain ⟨f, hf', he⟩ := Option.map_eq_some_iff.1 hf
  have := h.field ht i f hf'
  simp only [Prod.mk.injEq] at he
  rw [he.1, he.2, hn] at this
  exact this
theorem Can.struct_len {t : TypeId} {fs : Array Field} {cs : List Value} (h : Can enc W t cs) (ht : Try.prog.underlying t = some (.struct fs)) : cs.length = Try.prog.cellsOf t := by
  obtain ⟨fuel, x, h⟩ := h
  obtain ⟨xs, n, _, hx, hl, hlen, hg⟩ := DataW.trod_struct ht h
  exact hl
theorem Can.slice {t e : TypeId} {cs : List Value} (h : Can enc W t cs) (ht : Try.prog.underlying t = some (.slice e)) (size : Nat) (hsz : Try.prog.cellsOf e = size) (hpos : 0 < size) :
    ∃ (v : Value) (n : Nat) (xs : List Value), cs = [v] ∧ Rd W 0 W.heap.size size v n xs ∧ ∀ i, i < n → Can enc W e ((xs.drop (i * size)).take size) := by
  obtain ⟨fuel, x, h⟩ := h
  subst hsz
  rcases open_slice ht h with ⟨rfl, _⟩ | ⟨a, len, cap, m, n, D, Pl, rfl, hb, hl, hm, hmm, hx, hi⟩
  · exact ⟨_, 0, [], rfl, ⟨by simp, none, 0, rfl, by simp, by simp, fun h => absurd h (by omega)⟩, fun i h => absurd h (by omega)⟩
  · have hml : len ≤ m := by simp at hmm; omega
    have hcell : ∀ i, i < len → ∀ j, j < Try.prog.cellsOf e → ∃ u, W.cell? (a.add (i * Try.prog.cellsOf e + j)) = some u := by
      intro i hi' j hj
      obtain ⟨cs', hc, _⟩ := hi i (by omega)
      obtain ⟨_, hcl, hat⟩ := World.cells?_some hc
      have := hat j hj
      rw [Go.Deep.add_add, List.getElem?_eq_getElem (by omega)] at this
      exact ⟨_, this⟩
    rcases Nat.eq_zero_or_pos len with h0 | h0
    · subst h0
      exact ⟨_, 0, [], rfl, ⟨by simp, some a, cap, rfl, by omega, hm, fun h => absurd h (by omega)⟩, fun i h => absurd h (by omega)⟩
    obtain ⟨b, off, spot⟩ := a
    have hspot : spot = none := by
      obtain ⟨u, hu⟩ := hcell 0 h0 0 hpos
      simpa [Addr.add] using World.cell?_spot hu
    subst hspot
    have hadd : ∀ k, (Addr.mk b off none).add k = ⟨b, off + k, none⟩ := by
      intro k; unfold Addr.add; split
      · rename_i h; subst h; rfl
      · rfl
    have hall : ∀ j, j < len * Try.prog.cellsOf e → ∃ u, W.cell? ⟨b, off + j, none⟩ = some u := by
      intro j hj
      have h1 : j / Try.prog.cellsOf e < len := by rw [Nat.div_lt_iff_lt_mul hpos]; exact hj
      obtain ⟨u, hu⟩ := hcell (j / Try.prog.cellsOf e) h1 (j % Try.prog.cellsOf e) (Nat.mod_lt _ hpos)
      rw [Nat.div_add_mod', hadd] at hu
      exact ⟨u, hu⟩
    let xs := (List.range (len * Try.prog.cellsOf e)).map fun j => (W.cell? ⟨b, off + j, none⟩).getD undef
    have hxl : xs.length = len * Try.prog.cellsOf e := by simp [xs]
    have hxs : ∀ j, j < len * Try.prog.cellsOf e → W.cell? ⟨b, off + j, none⟩ = xs[j]? := by
      intro j hj
      obtain ⟨u, hu⟩ := hall j hj
      simp [xs, hj, hu]
    have hbl : b < W.heap.size := by
      obtain ⟨u, hu⟩ := hall 0 (Nat.mul_pos h0 hpos)
      exact block_lt_of_cell hu
    refine ⟨_, len, xs, rfl, ⟨hxl, _, cap, rfl, hl, hm, fun _ => ⟨b, off, rfl, Nat.zero_le _, hbl, hxs⟩⟩, fun i hi' => ?_⟩
    obtain ⟨cs', hc, ht'⟩ := hi i (by omega)
    obtain ⟨_, hcl, hat⟩ := World.cells?_some hc
    have hle : (i + 1) * Try.prog.cellsOf e ≤ len * Try.prog.cellsOf e := Nat.mul_le_mul_right _ hi'
    rw [Nat.succ_mul] at hle
    have : (xs.drop (i * Try.prog.cellsOf e)).take (Try.prog.cellsOf e) = cs' := by
      apply List.ext_getElem?
      intro j
      by_cases hj : j < Try.prog.cellsOf e
      · have h1 := hat j hj
        rw [Go.Deep.add_add, hadd, hxs _ (by omega)] at h1
        rw [List.getElem?_take_of_lt hj, List.getElem?_drop]
        exact h1
      · rw [List.getElem?_eq_none (by simp; omega), List.getElem?_eq_none (by omega)]
    rw [this]
    exact ⟨n, _, ht'⟩

theorem range_i64 {n : Int} (h : (Lit.int .i64 n).wf = true) : -9223372036854775808 ≤ n ∧ n ≤ 9223372036854775807 := bounds_i64 h

/-- []int -/
theorem Can.intRow {t e : TypeId} {cs : List Value} (h : Can enc W t cs) (ht : Try.prog.underlying t = some (.slice e)) (he : Try.prog.underlying e = some (.int .i64)) (hsz : Try.prog.cellsOf e = 1) :
    ∃ (v : Value) (l : List Int), cs = [v] ∧ Rd W 0 W.heap.size 1 v l.length (ints l) ∧ ∀ n ∈ l, (Lit.int .i64 n).wf = true := by
  obtain ⟨v, n, xs, rfl, hr, hc⟩ := h.slice ht 1 hsz (by omega)
  have hl := hr.1
  have : ∃ l : List Int, xs = ints l ∧ ∀ n ∈ l, (Lit.int .i64 n).wf = true := by
    have key : ∀ u ∈ xs, ∃ n, u = Value.int .i64 n ∧ (Lit.int .i64 n).wf = true := by
      intro u hu
      obtain ⟨i, hi, rfl⟩ := List.getElem_of_mem hu
      obtain ⟨m, hm, hw⟩ := (hc i (by omega)).int he
      rw [Nat.mul_one, List.drop_eq_getElem_cons hi, List.take_succ_cons] at hm
      injection hm with hm _
      exact ⟨m, hm, hw⟩
    clear hl hc hr
    induction xs with
    | nil => exact ⟨[], rfl, by simp⟩
    | cons u xs ih =>
      obtain ⟨l, rfl, hl⟩ := ih (fun u hu => key u (by simp [hu]))
      obtain ⟨n, rfl, hn⟩ := key u (by simp)
      exact ⟨n :: l, rfl, by simpa using ⟨hn, hl⟩⟩
  obtain ⟨l, rfl, hw⟩ := this
  obtain rfl : n = l.length := by simp at hl; omega
  exact ⟨v, l, rfl, hr, hw⟩
/-- []bool -/
theorem Can.boolRow {t e : TypeId} {cs : List Value} (h : Can enc W t cs) (ht : Try.prog.underlying t = some (.slice e)) (he : Try.prog.underlying e = some .bool) (hsz : Try.prog.cellsOf e = 1) :
    ∃ (v : Value) (l : List Bool), cs = [v] ∧ Rd W 0 W.heap.size 1 v l.length (l.map Value.bool) := by
  obtain ⟨v, n, xs, rfl, hr, hc⟩ := h.slice ht 1 hsz (by omega)
  have hl := hr.1
  have : ∃ l : List Bool, xs = l.map Value.bool := by
    have key : ∀ u ∈ xs, ∃ n, u = Value.bool n := by
      intro u hu
      obtain ⟨i, hi, rfl⟩ := List.getElem_of_mem hu
      obtain ⟨m, hm⟩ := (hc i (by omega)).bool he
      rw [Nat.mul_one, List.drop_eq_getElem_cons hi, List.take_succ_cons] at hm
      injection hm with hm _
      exact ⟨m, hm⟩
    clear hl hc hr
    induction xs with
    | nil => exact ⟨[], rfl⟩
    | cons u xs ih =>
      obtain ⟨l, rfl⟩ := ih (fun u hu => key u (by simp [hu]))
      obtain ⟨n, rfl⟩ := key u (by simp)
      exact ⟨n :: l, rfl⟩
  obtain ⟨l, rfl⟩ := this
  obtain rfl : n = l.length := by simp at hl; omega
  exact ⟨v, l, rfl, hr⟩

theorem Arg.cell {t : TypeId} {v : Value} (h : Arg enc W t v) (hc : ∀ cs, v ≠ .agg cs) : Can enc W t [v] := by
  have := h.1
  cases v <;> first | exact this | exact absurd rfl (hc _)
theorem Arg.int {t : TypeId} {k : IntKind} {v : Value} (h : Arg enc W t v) (ht : Try.prog.underlying t = some (.int k)) : ∃ n, v = .int k n ∧ (Lit.int k n).wf = true := by
  obtain ⟨hc, base, ho⟩ := h
  obtain ⟨n, rfl⟩ := okWide_int ht ho
  obtain ⟨m, hm, hw⟩ := Can.int hc ht
  simp [Value.cells] at hm
  exact ⟨n, rfl, hm ▸ hw⟩
theorem Arg.bool {t : TypeId} {v : Value} (h : Arg enc W t v) (ht : Try.prog.underlying t = some .bool) : ∃ n, v = .bool n := by
  obtain ⟨hc, base, ho⟩ := h
  exact okWide_bool ht ho
theorem Arg.string {t : TypeId} {v : Value} (h : Arg enc W t v) (ht : Try.prog.underlying t = some .string) : ∃ s : ByteArray, v = .string s ∧ s.size ≤ maxLen := by
  obtain ⟨hc, base, ho⟩ := h
  obtain ⟨n, rfl⟩ := okWide_string ht ho
  obtain ⟨m, hm, hw⟩ := Can.string hc ht
  simp [Value.cells] at hm
  exact ⟨n, rfl, hm ▸ hw⟩
theorem Arg.slice {t e : TypeId} {v : Value} (h : Arg enc W t v) (ht : Try.prog.underlying t = some (.slice e)) : Can enc W t [v] := by
  obtain ⟨hc, base, ho⟩ := h
  obtain ⟨a, n, c, rfl⟩ := okWide_slice ht ho
  exact hc
theorem Arg.struct {t : TypeId} {fs : Array Field} {v : Value} (h : Arg enc W t v) (ht : Try.prog.underlying t = some (.struct fs)) : ∃ cs : List Value, v = .agg ⟨cs⟩ ∧ Can enc W t cs := by
  obtain ⟨hc, base, ho⟩ := h
  obtain ⟨cs, rfl, hsz⟩ := okWide_struct ht ho
  obtain ⟨cs⟩ := cs
  exact ⟨cs, rfl, hc⟩
end

section
variable {H : Type} {enc : TypeId × Value → H} {W : World} {base : Nat} {args : Array Value} {ds : List (DataW H)} {ps : List MemPlace}
theorem args1 {t0 : TypeId} (h : DataW.TrodAll enc Try.prog W 0 (fun _ => true) true [t0] args.toList ds ps) (hv : ∀ (j : Nat) t v, [t0][j]? = some t → args[j]? = some v → Value.okWide Try.prog W .any base t v) :
    ∃ v0, args = #[v0] ∧ Arg enc W t0 v0 := by
  obtain ⟨v0, vs0, d0, ds0, p0, q0, hargs, rfl, rfl, h0, r0⟩ := trodAll_cons h
  obtain ⟨rfl, rfl, rfl⟩ := trodAll_nil r0
  obtain rfl : args = #[v0] := by cases args; simp_all
  obtain ⟨f0, h0⟩ := h0
  exact ⟨v0, rfl, ⟨f0, _, h0⟩, base, hv 0 t0 v0 rfl rfl⟩
theorem args2 {t0 t1 : TypeId} (h : DataW.TrodAll enc Try.prog W 0 (fun _ => true) true [t0, t1] args.toList ds ps) (hv : ∀ (j : Nat) t v, [t0, t1][j]? = some t → args[j]? = some v → Value.okWide Try.prog W .any base t v) :
    ∃ v0 v1, args = #[v0, v1] ∧ Arg enc W t0 v0 ∧ Arg enc W t1 v1 := by
  obtain ⟨v0, vs0, d0, ds0, p0, q0, hargs, rfl, rfl, h0, r0⟩ := trodAll_cons h
  obtain ⟨v1, vs1, d1, ds1, p1, q1, rfl, rfl, rfl, h1, r1⟩ := trodAll_cons r0
  obtain ⟨rfl, rfl, rfl⟩ := trodAll_nil r1
  obtain rfl : args = #[v0, v1] := by cases args; simp_all
  obtain ⟨f0, h0⟩ := h0
  obtain ⟨f1, h1⟩ := h1
  exact ⟨v0, v1, rfl, ⟨⟨f0, _, h0⟩, base, hv 0 t0 v0 rfl rfl⟩, ⟨⟨f1, _, h1⟩, base, hv 1 t1 v1 rfl rfl⟩⟩
theorem args3 {t0 t1 t2 : TypeId} (h : DataW.TrodAll enc Try.prog W 0 (fun _ => true) true [t0, t1, t2] args.toList ds ps) (hv : ∀ (j : Nat) t v, [t0, t1, t2][j]? = some t → args[j]? = some v → Value.okWide Try.prog W .any base t v) :
    ∃ v0 v1 v2, args = #[v0, v1, v2] ∧ Arg enc W t0 v0 ∧ Arg enc W t1 v1 ∧ Arg enc W t2 v2 := by
  obtain ⟨v0, vs0, d0, ds0, p0, q0, hargs, rfl, rfl, h0, r0⟩ := trodAll_cons h
  obtain ⟨v1, vs1, d1, ds1, p1, q1, rfl, rfl, rfl, h1, r1⟩ := trodAll_cons r0
  obtain ⟨v2, vs2, d2, ds2, p2, q2, rfl, rfl, rfl, h2, r2⟩ := trodAll_cons r1
  obtain ⟨rfl, rfl, rfl⟩ := trodAll_nil r2
  obtain rfl : args = #[v0, v1, v2] := by cases args; simp_all
  obtain ⟨f0, h0⟩ := h0
  obtain ⟨f1, h1⟩ := h1
  obtain ⟨f2, h2⟩ := h2
  exact ⟨v0, v1, v2, rfl, ⟨⟨f0, _, h0⟩, base, hv 0 t0 v0 rfl rfl⟩, ⟨⟨f1, _, h1⟩, base, hv 1 t1 v1 rfl rfl⟩, ⟨⟨f2, _, h2⟩, base, hv 2 t2 v2 rfl rfl⟩⟩
theorem args4 {t0 t1 t2 t3 : TypeId} (h : DataW.TrodAll enc Try.prog W 0 (fun _ => true) true [t0, t1, t2, t3] args.toList ds ps) (hv : ∀ (j : Nat) t v, [t0, t1, t2, t3][j]? = some t → args[j]? = some v → Value.okWide Try.prog W .any base t v) :
    ∃ v0 v1 v2 v3, args = #[v0, v1, v2, v3] ∧ Arg enc W t0 v0 ∧ Arg enc W t1 v1 ∧ Arg enc W t2 v2 ∧ Arg enc W t3 v3 := by
  obtain ⟨v0, vs0, d0, ds0, p0, q0, hargs, rfl, rfl, h0, r0⟩ := trodAll_cons h
  obtain ⟨v1, vs1, d1, ds1, p1, q1, rfl, rfl, rfl, h1, r1⟩ := trodAll_cons r0
  obtain ⟨v2, vs2, d2, ds2, p2, q2, rfl, rfl, rfl, h2, r2⟩ := trodAll_cons r1
  obtain ⟨v3, vs3, d3, ds3, p3, q3, rfl, rfl, rfl, h3, r3⟩ := trodAll_cons r2
  obtain ⟨rfl, rfl, rfl⟩ := trodAll_nil r3
  obtain rfl : args = #[v0, v1, v2, v3] := by cases args; simp_all
  obtain ⟨f0, h0⟩ := h0
  obtain ⟨f1, h1⟩ := h1
  obtain ⟨f2, h2⟩ := h2
  obtain ⟨f3, h3⟩ := h3
  exact ⟨v0, v1, v2, v3, rfl, ⟨⟨f0, _, h0⟩, base, hv 0 t0 v0 rfl rfl⟩, ⟨⟨f1, _, h1⟩, base, hv 1 t1 v1 rfl rfl⟩, ⟨⟨f2, _, h2⟩, base, hv 2 t2 v2 rfl rfl⟩, ⟨⟨f3, _, h3⟩, base, hv 3 t3 v3 rfl rfl⟩⟩
end
end Go.Proofs.Ythpanpedoeghoaa
