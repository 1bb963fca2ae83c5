/- A strings.Builder of the call's own: copyCheck, WriteString, String, in the words of this repo. -/
import Derived.Test.YtnlbojckobgjpaaGreatDoorTextW
import Derived.Lib.Builder
import Derived.Lib.AppendStr
set_option linter.unusedVariables false
set_option linter.unusedSimpArgs false
namespace Go.Proofs.YtnlbojckobgjpaaGreatDoor
open Go.RowKit Go.Lib
set_option maxRecDepth 100000
theorem T.infoByte : (Tryz.prog.info? 5).map (fun i => (i.zero, i.size, i.bytes)) = some (some (.int .u8 0), 1, 1) := by kernel_rfl
theorem T.sizeBld : ∃ j, Tryz.prog.info? 46 = some j ∧ j.size = 2 := by
  have h : (Tryz.prog.info? 46).map (·.size) = some 2 := by kernel_rfl
  obtain ⟨j, hj, hs⟩ := Option.map_eq_some_iff.1 h
  exact ⟨j, hj, hs⟩
/-- Block b is a builder that holds the bytes bs; what it writes lies in the block of A, from B on. -/
structure Bld (w : World) (B b : Nat) (p : Value) (A : Option Addr) (c : Nat) (bs : List Value) : Prop where
  own : Own w b 46 [p, .slice A bs.length c]
  grow : Grow w B 5 1 A bs.length c bs
  ne : b ∉ gOf A
  le : B ≤ b
theorem Bld.keep {w w' : World} {B b : Nat} {p : Value} {A : Option Addr} {c : Nat} {bs : List Value} (h : Bld w B b p A c bs) (hb : ∀ x, x < w.heap.size → w'.heap[x]? = w.heap[x]?) : Bld w' B b p A c bs :=
  ⟨(hb b h.own.lt).trans h.own, h.grow.keep (fun x hx => hb x (h.grow.lt x hx)), h.ne, h.le⟩
theorem Bld.step {w w' : World} {B b : Nat} {p : Value} {A : Option Addr} {c : Nat} {bs : List Value} (hb : Below w.heap.size w w') (h : Bld w B b p A c bs) : Bld w' B b p A c bs := h.keep (fun x hx => hb.block x hx)
theorem Bld.used {w : World} {B b : Nat} {p : Value} {A : Option Addr} {c : Nat} {bs : List Value} (h : Bld w B b p A c bs) (q : Value) : Bld (w.setCell ⟨b, 0, none⟩ q) B b q A c bs :=
  ⟨h.own.set_ 0 q, h.grow.keep (fun x hx => Below.heap_setCell _ _ _ _ (fun e => h.ne (by simp at e; exact e ▸ hx))), h.ne, h.le⟩
theorem Bld.is {w : World} {B b : Nat} {p : Value} {A : Option Addr} {c : Nat} {bs : List Value} (h : Bld w B b p A c bs) (hp : p = .pointer none ∨ p = .pointer (some ⟨b, 0, none⟩)) : Lib.IsBuilder 46 5 B b bs w := by
  have key : Lib.BuilderAt 46 5 B b p bs w := ⟨h.le, .slice A bs.length c, h.own, h.grow, fun e => h.ne (by cases A with | none => cases e | some a => simp [Value.ownBlock] at e; simp [gOf, e])⟩
  rcases hp with rfl | rfl
  · exact .inl key
  · exact .inr key
theorem Bld.new (w : World) : Bld (w.alloc (.cells #[.pointer none, .slice none 0 0] 46)) w.heap.size w.heap.size (.pointer none) none 0 [] :=
  ⟨Own.new w _ #[_, _], Grow.nil _ _ _ _, by simp [gOf], Nat.le_refl _⟩
set_option maxHeartbeats 4000000 in
theorem I_copyCheck_used (b : Nat) (w : World) (h0 : w.cell? ⟨b, 0, none⟩ = some (.pointer (some ⟨b, 0, none⟩))) :
    Calls Tryz.prog 40 #[.pointer (some ⟨b, 0, none⟩)] w fun e w' => e = .returned (.tuple #[]) ∧ w' = w := by
  obtain ⟨j, hj, _⟩ := T.sizeBld
  go_enter Tryz.func40, Tryz.ntmps40
  go_wp2
  (try rw [Lib.run_neq_ptr_same w _ Tryz.underlying44 hj])
  (try go_wp2)
  go_end0
  exact ⟨rfl, rfl⟩
set_option maxHeartbeats 4000000 in
theorem I_copyCheck_fresh (b : Nat) (w : World) (h0 : w.cell? ⟨b, 0, none⟩ = some (.pointer none)) (hsh : w.shape? b = some (46, 2)) (hfz : w.frozen? ⟨b, 0, none⟩ = false) :
    Calls Tryz.prog 40 #[.pointer (some ⟨b, 0, none⟩)] w fun e w' => e = .returned (.tuple #[]) ∧ w' = w.setCell ⟨b, 0, none⟩ (.pointer (some ⟨b, 0, none⟩)) := by
  obtain ⟨j, hj, hjs⟩ := T.sizeBld
  go_enter Tryz.func40, Tryz.ntmps40
  go_wp2
  rw [Lib.run_to_unsafe w ⟨b, 0, none⟩ Tryz.underlying44 Tryz.underlying103 hj (by rw [hjs]; decide) hsh (Nat.zero_lt_succ 1)]
  simp only [Result.andThen]
  rw [Oper.upon_value]
  go_wp2
  rw [run_callFunc_extern Tryz.func64 (by kernel_rfl) (by kernel_rfl) (by kernel_rfl) (e := Extern.AbiNoEscape.same) (by kernel_rfl)]
  rw [Lib.run_noEscape]
  simp only [Result.andThen]
  rw [Oper.upon_value]
  go_wp2
  rw [Lib.run_from_unsafe w ⟨b, 0, none⟩ Tryz.underlying103 Tryz.underlying44 hj hsh (by kernel_rfl)]
  simp only [Result.andThen]
  rw [Oper.upon_value]
  go_wp2
  go_end0
  exact ⟨rfl, rfl⟩
theorem I_copyCheck {w : World} {B b : Nat} {p : Value} {A : Option Addr} {c : Nat} {bs : List Value} (h : Bld w B b p A c bs) (hp : p = .pointer none ∨ p = .pointer (some ⟨b, 0, none⟩)) :
    Calls Tryz.prog 40 #[.pointer (some ⟨b, 0, none⟩)] w fun e w' => e = .returned (.tuple #[]) ∧ Bld w' B b (.pointer (some ⟨b, 0, none⟩)) A c bs ∧ Only w.heap.size [b] w w' := by
  rcases hp with rfl | rfl
  · refine (I_copyCheck_fresh b w (h.own.cell 0) ?_ (h.own.frozen 0)).mono ?_
    · have := h.own
      unfold Own at this
      simp [World.shape?, this]
    · rintro e w' ⟨rfl, rfl⟩
      exact ⟨rfl, h.used _, Only.setCell (Only.refl _ _ _) (by simp) _⟩
  · refine (I_copyCheck_used b w (h.own.cell 0)).mono ?_
    rintro e w' ⟨rfl, rfl⟩
    exact ⟨rfl, h, Only.refl _ _ _⟩
set_option maxHeartbeats 4000000 in
/-- (*strings.Builder).WriteString -/
theorem I_WriteString {w : World} {B b : Nat} {p : Value} {A : Option Addr} {c : Nat} {bs : List Value} (l : List UInt8) (h : Bld w B b p A c bs) (hp : p = .pointer none ∨ p = .pointer (some ⟨b, 0, none⟩)) (hlen : bs.length + l.length ≤ 140737488355328) (hBw : B ≤ w.heap.size) :
    Calls Tryz.prog 16 #[.pointer (some ⟨b, 0, none⟩), str l] w fun e w' => ∃ A2 c2, e = .returned (.tuple #[.int .i64 l.length, .nilIface]) ∧ Bld w' B b (.pointer (some ⟨b, 0, none⟩)) A2 c2 (bs ++ Lib.byteCells l) ∧ Only w.heap.size (b :: gOf A) w w' := by
  have HC := Lib.hid (I_copyCheck h hp)
  have HGE := Lib.hid h.grow.ge
  have hbl := h.own.lt
  have hgl := h.grow.lt
  have hle := h.le
  clear h
  obtain ⟨i0, hi, hz0, hz1, hz2⟩ := info_parts T.infoByte
  go_enter Tryz.func16, Tryz.ntmps16
  go_wp2_with (first | (go_at_call 40; refine HC.out.mono ?_) | fail)
  rintro e w1 ⟨rfl, h1, hO1⟩
  have hz := hO1.size
  have HO1 := Lib.hid hO1
  have c0 : w1.cell? ⟨b, 0, none⟩ = some (.pointer (some ⟨b, 0, none⟩)) := h1.own.cell 0
  have c1 : w1.cell? ⟨b, 1, none⟩ = some (.slice A bs.length c) := h1.own.cell 1
  have HB := Lib.hid h1
  clear h1 hO1
  go_wp2_with (at_builtin; refine Lib.wpList_append_own_string _ rfl _ _ 22 9 rfl B 5 i0 Tryz.underlying22 Tryz.underlying9 hi hz0 hz1 hz2 _ _ _ rfl HB.out.grow ⟨l.toArray⟩ rfl ?c3 ?c4 ?c5 ?_)
  case c3 => unfold maxLen; show bs.length + l.length ≤ _; omega
  case c4 => show bs.length + l.length ≤ _; omega
  case c5 => omega
  intro v' w2 hown' hgrow _
  obtain ⟨A2, c2, hv⟩ : ∃ A2 c2, v' = .slice A2 (bs.length + l.length) c2 := by
    rcases hown'.2 with ⟨hv, h0⟩ | ⟨g, cap, cur, hv, _⟩
    · exact ⟨none, 0, by rw [hv]; congr 1; exact h0.symm⟩
    · exact ⟨_, _, hv⟩
  subst hv
  have hsl : (Value.slice A bs.length c).ownBlock = A.map (·.block) := by cases A <;> rfl
  rw [hsl] at hgrow
  have hne2 : b ∉ gOf A := HB.out.ne
  have hb2 : w2.heap[b]? = w1.heap[b]? := hgrow.block b (by omega) (by cases A <;> simp_all [gOf])
  have HO2 : Hid (Own w2 b 46 [.pointer (some ⟨b, 0, none⟩), .slice A bs.length c]) := Lib.hid (hb2.trans HB.out.own)
  have HG2 : Hid (Grow w2 B 5 1 A2 (bs.length + l.length) c2 (bs ++ Lib.byteCells l)) := Lib.hid hown'
  have d0 : w2.cell? ⟨b, 0, none⟩ = some (.pointer (some ⟨b, 0, none⟩)) := HO2.out.cell 0
  have d1 : w2.cell? ⟨b, 1, none⟩ = some (.slice A bs.length c) := HO2.out.cell 1
  have f1 : w2.frozen? ⟨b, 1, none⟩ = false := HO2.out.frozen 1
  have HGR := Lib.hid hgrow
  clear hgrow hb2 hown'
  go_wp2_with fail
  go_ret2
  have HG3 := HG2.out
  have hne3 : b ∉ gOf A2 := by
    rcases HG3.shape with ⟨rfl, _⟩ | ⟨g, cur, rfl, _, hg, _⟩
    · simp [gOf]
    · intro hx
      simp [gOf] at hx
      subst hx
      have := HO2.out
      unfold Own at this
      rw [hg] at this
      injection this with this
      injection this with _ this
      exact absurd this (by decide)
  have hll : (bs ++ Lib.byteCells l).length = bs.length + l.length := by rw [List.length_append, Lib.byteCells_length]
  refine ⟨A2, c2, rfl, ⟨?_, ?_, hne3, hle⟩, ?_⟩
  · rw [hll]; exact HO2.out.set_ 1 _
  · rw [hll]; exact HG3.keep (fun x hx => Below.heap_setCell _ _ _ _ (fun e => hne3 (by simp at e; exact e ▸ hx)))
  · refine Only.setCell ?_ (by simp) _
    have hgb := HGR.out
    refine ⟨hgb.os.trans HO1.out.os, hgb.tape.trans HO1.out.tape, hgb.output.trans HO1.out.output, Nat.le_trans hz hgb.size, fun k hk hn => ?_⟩
    have h1 : k ∉ gOf A := fun h => hn (by simp [h])
    have h2 : k ≠ b := fun h => hn (by simp [h])
    exact (hgb.block k (by omega) (by cases A <;> simp_all [gOf])).trans (HO1.out.block k hk (by simpa using h2))
end Go.Proofs.YtnlbojckobgjpaaGreatDoor
