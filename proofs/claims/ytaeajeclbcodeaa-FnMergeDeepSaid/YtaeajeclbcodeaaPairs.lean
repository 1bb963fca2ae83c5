/- MADE BY PROGRAM (genpairs.py). Slices of flat structs of ints as lists of tuples: the laws' szTS, toTS, eqTS (on equal lists); an argument of such a type. -/
import Derived.Test.YtaeajeclbcodeaaRecs
import Derived.Test.YtaeajeclbcodeaaFlat
import Derived.Deep.RegionHeld3
namespace Go.Proofs.Ytaeajeclbcodeaa
open Go.ChangeShapes Go.WideShapes Go.ChangeAt Go.RowKit
set_option linter.unusedVariables false
/-- The cells of a list of structs, one behind the other. -/
def rowOf {α : Type} (f : α → List Value) (l : List α) : List Value := l.flatMap f
theorem rowOf_len {α : Type} {f : α → List Value} {s : Nat} (hf : ∀ a, (f a).length = s) (l : List α) : (rowOf f l).length = l.length * s := by
  unfold rowOf
  induction l with
  | nil => simp
  | cons a l ih => rw [List.flatMap_cons, List.length_append, hf, ih, List.length_cons, Nat.succ_mul, Nat.add_comm]
theorem rowOf_at {α : Type} {f : α → List Value} {s : Nat} (hf : ∀ a, (f a).length = s) : ∀ (l : List α) (k j : Nat) (hk : k < l.length) (_ : j < s), (rowOf f l)[k * s + j]? = (f l[k])[j]?
  | [], k, j, hk, _ => absurd hk (by simp)
  | a :: l, 0, j, hk, hj => by
    show (a :: l |>.flatMap f)[0 * s + j]? = _
    rw [List.flatMap_cons, List.getElem?_append_left (by rw [hf]; omega), Nat.zero_mul, Nat.zero_add]
    rfl
  | a :: l, k + 1, j, hk, hj => by
    show (a :: l |>.flatMap f)[(k + 1) * s + j]? = _
    rw [List.flatMap_cons, List.getElem?_append_right (by rw [hf, Nat.succ_mul]; omega), hf, Nat.succ_mul, show k * s + s + j - s = k * s + j by omega]
    exact rowOf_at hf l k j (by simpa using hk) hj
/-- Filled up to element k. -/
def FillR (s : Nat) (xs cs : List Value) (n k : Nat) : Prop := cs.length = n * s ∧ ∀ j, j < k * s → cs[j]? = xs[j]?
theorem FillR.succ {s n k : Nat} {xs cs cs' : List Value} (h : FillR s xs cs n k) (hl : cs'.length = cs.length) (h1 : ∀ j, j < k * s → cs'[j]? = cs[j]?) (h2 : ∀ j, j < s → cs'[k * s + j]? = xs[k * s + j]?) : FillR s xs cs' n (k + 1) := by
  refine ⟨hl.trans h.1, fun j hj => ?_⟩
  rw [Nat.succ_mul] at hj
  by_cases e : j < k * s
  · rw [h1 j e, h.2 j e]
  · have := h2 (j - k * s) (by omega)
    rwa [show k * s + (j - k * s) = j by omega] at this
theorem FillR.whole {s n : Nat} {xs cs : List Value} (h : FillR s xs cs n n) (hx : xs.length = n * s) : cs = xs := by
  apply List.ext_getElem?
  intro j
  by_cases hj : j < n * s
  · exact h.2 j hj
  · rw [List.getElem?_eq_none (by rw [h.1]; omega), List.getElem?_eq_none (by omega)]
abbrev EDeepStep : Type := Int × Int
def cDeepStep (p : EDeepStep) : List Value := [.int .i64 p.1, .int .i64 p.2]
abbrev rDeepStep (l : List EDeepStep) : List Value := rowOf cDeepStep l
theorem rDeepStep_len (l : List EDeepStep) : (rDeepStep l).length = l.length * 2 := rowOf_len (f := cDeepStep) (s := 2) (fun _ => rfl) l
theorem rDeepStep_at {l : List EDeepStep} {k : Nat} (hk : k < l.length) : (rDeepStep l)[k * 2]? = some (.int .i64 l[k].1) ∧ (rDeepStep l)[k * 2 + 1]? = some (.int .i64 l[k].2) := by
  have h := rowOf_at (f := cDeepStep) (s := 2) (fun _ => rfl) l k
  exact ⟨h 0 hk (by omega), h 1 hk (by omega)⟩
set_option maxHeartbeats 400000 in
theorem L_szDeepStepS {A : Option Addr} {n0 c : Nat} {left : Int} (w : World) (hl : 0 ≤ left) (hl2 : left ≤ 1048576) (hn : n0 ≤ maxLen) :
    Calls Try.prog 11 #[.slice A n0 c, .int .i64 left] w fun e w' => e = .returned (.int .i64 (szF left n0)) ∧ w = w' := by
  unfold maxLen at hn
  go_enter Try.func11, Try.ntmps11
  go_wp2
  all_goals
    go_ret
    exact ⟨ret_int (by unfold szF; split <;> omega), rfl⟩
def OutDeepStepS (l : List EDeepStep) (w : World) (e : Ending) (w' : World) : Prop :=
  e = .returned (sl w.heap.size l.length) ∧ Own w' w.heap.size 61 (rDeepStep l) ∧ RS w' 2 (some ⟨w.heap.size, 0, none⟩) l.length l.length (rDeepStep l) ∧ Below w.heap.size w w'
set_option maxHeartbeats 1000000 in
theorem L_toDeepStepS {A : Option Addr} {c : Nat} {l : List EDeepStep} (w : World) (hs : l.length ≤ 1048576) (h : RS w 2 A l.length c (rDeepStep l)) :
    Calls Try.prog 13 #[.slice A l.length c] w (OutDeepStepS l w) := by
  obtain ⟨hn, hc, hr⟩ := h.open_
  unfold maxLen at hc
  clear h
  have HR := Lib.hid hr
  have hmk := fun W => run_mk (P := Try.prog) 37 61 (.agg #[.int .i64 0, .int .i64 0]) 2 16 Try.underlying37 (by kernel_rfl) l.length (by omega) (by omega) W
  clear hr
  have ho : Own (w.alloc (.cells (madeCells #[Value.int .i64 0, Value.int .i64 0] (l.length * 2)) 61)) w.heap.size 61 (madeCells #[Value.int .i64 0, Value.int .i64 0] (l.length * 2)).toList := Own.new _ _ _
  have hl : (madeCells #[Value.int .i64 0, Value.int .i64 0] (l.length * 2)).toList.length = l.length * 2 := by simp [size_madeCells]
  have hb : Below w.heap.size w (w.alloc (.cells (madeCells #[Value.int .i64 0, Value.int .i64 0] (l.length * 2)) 61)) := (Below.refl _ _).alloc (Nat.le_refl _) _
  have HO := Lib.hid ho
  have HL := Lib.hid hl
  have HB0 := Lib.hid hb
  clear ho hl hb
  go_enter Try.func13, Try.ntmps13
  go_wp2
  go_loopw [4] (fun i wr => ∃ (k : Nat) (cs : List Value), k ≤ l.length ∧ i = .int .i64 k ∧ FillR 2 (rDeepStep l) cs l.length k ∧ Own wr w.heap.size 61 cs ∧ Below w.heap.size w wr) (fun i _ => l.length - (intOf i).toNat)
  case atStart => exact ⟨0, _, Nat.zero_le _, rfl, ⟨HL.out, fun j hj => absurd hj (by omega)⟩, HO.out, HB0.out⟩
  case round =>
    clear hmk
    obtain ⟨k, cs, hk, rfl, hf, ho, hb⟩ := hrel
    have HB := Lib.hid hb
    have HO := Lib.hid ho
    have HF := Lib.hid hf
    clear hb ho hf
    by_cases hlt : k < l.length
    · obtain ⟨b, o, rfl, hbh, hcell⟩ := HR.out (by omega)
      obtain ⟨q0, q1⟩ := rDeepStep_at (l := l) hlt
      have d0 : wr.cell? ⟨b, o + k * 2, none⟩ = some (.int .i64 l[k].1) := by rw [(bcell HB.out).1 _ _ (by omega), hcell _ (by omega), q0]
      have d1 : wr.cell? ⟨b, o + k * 2 + 1, none⟩ = some (.int .i64 l[k].2) := by rw [(bcell HB.out).1 _ _ (by omega), show o + k * 2 + 1 = o + (k * 2 + 1) by omega, hcell _ (by omega), q1]
      have b1 : (k : Int) < l.length := by omega
      have hg : w.heap.size < wr.heap.size := HO.out.lt
      clear hcell q0 q1
      go_wp2_with fail
      refine (L_toDeepStep _ _ _).mono ?_
      rintro e w' ⟨rfl, hb⟩
      have HO2 : Hid (Own w' w.heap.size 61 cs) := HO.out.below hb hg
      have HB2 : Hid (Below w.heap.size w w') := Below.step hb HB.out (by omega)
      have hcl : cs.length = l.length * 2 := HF.out.1
      obtain ⟨v0, e0⟩ : ∃ v, w'.cell? ⟨w.heap.size, k * 2, none⟩ = some v := ⟨cs[k * 2]'(by omega), by rw [HO2.out.cell, List.getElem?_eq_getElem]⟩
      obtain ⟨v1, e1⟩ : ∃ v, w'.cell? ⟨w.heap.size, k * 2 + 1, none⟩ = some v := ⟨cs[k * 2 + 1]'(by omega), by rw [HO2.out.cell, List.getElem?_eq_getElem]⟩
      have f0 : w'.frozen? ⟨w.heap.size, k * 2, none⟩ = false := HO2.out.frozen _
      have f1 : w'.frozen? ⟨w.heap.size, k * 2 + 1, none⟩ = false := HO2.out.frozen _
      have HC := Lib.hid hcl
      clear hb hcl
      go_wp2
      go_roundw
      case rel =>
        refine ⟨k + 1, _, by omega, by go_num, ?_, Own.set_ (HO2.out.set_ _ _) _ _, Below.setCell (HB2.out.setCell (Nat.le_refl _) _) (Nat.le_refl _) _⟩
        have hcl := HC.out
        obtain ⟨q0, q1⟩ := rDeepStep_at (l := l) hlt
        refine HF.out.succ (by simp) (fun j hj => ?_) (fun j hj => ?_)
        · simp only [List.getElem?_set]
          repeat rw [if_neg (by omega)]
        · match j, hj with
          | 0, _ => (simp only [List.getElem?_set, List.length_set, Nat.add_zero]; rw [q0]; simp <;> omega)
          | 1, _ => (simp only [List.getElem?_set, List.length_set]; rw [q1]; simp <;> omega)
      case measure => simp [intOf]; omega
    · go_wp2
      go_ret
      obtain rfl : k = l.length := by omega
      have hcs : cs = rDeepStep l := HF.out.whole (rDeepStep_len l)
      subst hcs
      exact ⟨rfl, HO.out, HO.out.rs (rDeepStep_len l) hs, HB.out⟩
set_option maxHeartbeats 2000000 in
theorem L_eqDeepStepS {A B : Option Addr} {c d : Nat} {l : List EDeepStep} (w : World) (h : RS w 2 A l.length c (rDeepStep l)) (h' : RS w 2 B l.length d (rDeepStep l)) :
    Calls Try.prog 15 #[.slice A l.length c, .slice B l.length d] w fun e w' => e = .returned (.bool true) ∧ Below w.heap.size w w' := by
  obtain ⟨hn, hc, hr⟩ := h.open_
  obtain ⟨hn', hc', hr'⟩ := h'.open_
  unfold maxLen at hc hc'
  have HR := Lib.hid hr
  have HR' := Lib.hid hr'
  have hB0 := Below.refl w.heap.size w
  clear hr hr' h h'
  go_enter Try.func15, Try.ntmps15
  go_wp2
  go_loopw [5] (fun i wr => ∃ k : Nat, k ≤ l.length ∧ i = .int .i64 k ∧ Below w.heap.size w wr) (fun i _ => l.length - (intOf i).toNat)
  case atStart => exact ⟨0, Nat.zero_le _, rfl, hB0⟩
  case round =>
    obtain ⟨k, hk, rfl, hb⟩ := hrel
    have HB := Lib.hid hb
    clear hb hB0
    by_cases hlt : k < l.length
    · obtain ⟨b, o, rfl, hbh, hcell⟩ := HR.out (by omega)
      obtain ⟨b', o', rfl, hbh', hcell'⟩ := HR'.out (by omega)
      obtain ⟨q0, q1⟩ := rDeepStep_at (l := l) hlt
      have hg : b < wr.heap.size := Nat.lt_of_lt_of_le hbh HB.out.size
      have hg' : b' < wr.heap.size := Nat.lt_of_lt_of_le hbh' HB.out.size
      have d0 : wr.cell? ⟨b, o + k * 2, none⟩ = some (.int .i64 l[k].1) := by rw [(bcell HB.out).1 _ _ (by omega), hcell _ (by omega), q0]
      have d1 : wr.cell? ⟨b, o + k * 2 + 1, none⟩ = some (.int .i64 l[k].2) := by rw [(bcell HB.out).1 _ _ (by omega), show o + k * 2 + 1 = o + (k * 2 + 1) by omega, hcell _ (by omega), q1]
      have e0 : wr.cell? ⟨b', o' + k * 2, none⟩ = some (.int .i64 l[k].1) := by rw [(bcell HB.out).1 _ _ (by omega), hcell' _ (by omega), q0]
      have e1 : wr.cell? ⟨b', o' + k * 2 + 1, none⟩ = some (.int .i64 l[k].2) := by rw [(bcell HB.out).1 _ _ (by omega), show o' + k * 2 + 1 = o' + (k * 2 + 1) by omega, hcell' _ (by omega), q1]
      have b0 : (0 : Int) ≤ k := by omega
      have b1 : (k : Int) < l.length := by omega
      clear hcell hcell' q0 q1
      go_wp2_with fail
      go_region_held3 (fun w' => w'.cell? ⟨b, o + k * 2, none⟩ = some (.int .i64 l[k].1) ∧ w'.cell? ⟨b, o + k * 2 + 1, none⟩ = some (.int .i64 l[k].2) ∧ w'.cell? ⟨b', o' + k * 2, none⟩ = some (.int .i64 l[k].1) ∧ w'.cell? ⟨b', o' + k * 2 + 1, none⟩ = some (.int .i64 l[k].2))
        (first | go_keep | ((try dsimp only); refine ⟨?_, ?_, ?_, ?_⟩ <;> go_simp))
        (first | (go_at_call 42; refine (L_eqDeepStep _ _ _).mono ?_; rintro e w' ⟨rfl, hb⟩; have c0 := fun x => hb.cell (p := ⟨b, x, none⟩) hg; have c1 := fun x => hb.cell (p := ⟨b', x, none⟩) hg'))
      have HB2 : Hid (Below w.heap.size w w') := Below.step hb (HB.out.drew) HB.out.size
      clear hb c0 c1
      go_wp2
      go_roundw
      case rel => exact ⟨k + 1, by omega, by go_num, HB2.out⟩
      case measure => simp [intOf]; omega
    · go_wp2
      go_ret
      exact ⟨rfl, HB.out⟩
theorem Arg.deepStepS {H : Type} {enc : TypeId × Value → H} {W : World} {v : Value} (h : Arg enc W 35 v) : ∃ (A : Option Addr) (c : Nat) (l : List EDeepStep), v = .slice A l.length c ∧ RS W 2 A l.length c (rDeepStep l) := by
  have h1 := h.slice Try.underlying35
  obtain ⟨v', n, xs, hv, hr, hc⟩ := h1.slice Try.underlying35 2 (by kernel_rfl) (by omega)
  obtain rfl : v = v' := List.head_eq_of_cons_eq hv
  have hl := hr.1
  have key : ∀ (m : Nat) (ys : List Value), ys.length = m * 2 → (∀ i, i < m → Can enc W 64 ((ys.drop (i * 2)).take 2)) → ∃ l : List EDeepStep, l.length = m ∧ ys = rDeepStep l := by
    intro m
    induction m with
    | zero => intro ys hy _; exact ⟨[], rfl, by have e := List.eq_nil_of_length_eq_zero (l := ys) (by omega); subst e; rfl⟩
    | succ m ih =>
      intro ys hy hcan
      have h0 := hcan 0 (by omega)
      rw [Nat.zero_mul, List.drop_zero] at h0
      match ys, hy with
      | [], hy => exact absurd hy (by intro e; simp only [List.length_nil] at e; omega)
      | [y0], hy => exact absurd hy (by intro e; simp only [List.length_cons, List.length_nil] at e; omega)
      | y0 :: y1 :: ys, hy =>
        simp only [List.length_cons] at hy
        obtain ⟨x0, p0, _⟩ := (h0.fieldAt Try.underlying64 0 3 0 1 rfl T.cellInt).int Try.underlying3
        obtain ⟨x1, p1, _⟩ := (h0.fieldAt Try.underlying64 1 3 1 1 rfl T.cellInt).int Try.underlying3
        obtain rfl : y0 = _ := List.head_eq_of_cons_eq p0
        obtain rfl : y1 = _ := List.head_eq_of_cons_eq p1
        obtain ⟨l, hll, rfl⟩ := ih ys (by omega) (fun i hi => by
          have := hcan (i + 1) (by omega)
          rw [show (i + 1) * 2 = i * 2 + 2 by omega] at this
          rw [show List.drop (i * 2 + 2) (Value.int .i64 x0 :: Value.int .i64 x1 :: ys) = List.drop (i * 2) ys from rfl] at this
          exact this)
        exact ⟨(x0, x1) :: l, by simp [hll], rfl⟩
  obtain ⟨l, rfl, rfl⟩ := key n xs hl hc
  have hr' := hr
  obtain ⟨_, A, c, rfl, _⟩ := hr
  exact ⟨A, c, l, rfl, hr'⟩
abbrev EBucket : Type := Int × Int × Int × Int
def cBucket (p : EBucket) : List Value := [.int .i64 p.1, .int .i64 p.2.1, .int .i64 p.2.2.1, .int .i64 p.2.2.2]
abbrev rBucket (l : List EBucket) : List Value := rowOf cBucket l
theorem rBucket_len (l : List EBucket) : (rBucket l).length = l.length * 4 := rowOf_len (f := cBucket) (s := 4) (fun _ => rfl) l
theorem rBucket_at {l : List EBucket} {k : Nat} (hk : k < l.length) : (rBucket l)[k * 4]? = some (.int .i64 l[k].1) ∧ (rBucket l)[k * 4 + 1]? = some (.int .i64 l[k].2.1) ∧ (rBucket l)[k * 4 + 2]? = some (.int .i64 l[k].2.2.1) ∧ (rBucket l)[k * 4 + 3]? = some (.int .i64 l[k].2.2.2) := by
  have h := rowOf_at (f := cBucket) (s := 4) (fun _ => rfl) l k
  exact ⟨h 0 hk (by omega), h 1 hk (by omega), h 2 hk (by omega), h 3 hk (by omega)⟩
abbrev EFragment : Type := Int × Int × Int × Int × Int
def cFragment (p : EFragment) : List Value := [.int .i64 p.1, .int .i64 p.2.1, .int .i64 p.2.2.1, .int .i64 p.2.2.2.1, .int .i64 p.2.2.2.2]
abbrev rFragment (l : List EFragment) : List Value := rowOf cFragment l
theorem rFragment_len (l : List EFragment) : (rFragment l).length = l.length * 5 := rowOf_len (f := cFragment) (s := 5) (fun _ => rfl) l
theorem rFragment_at {l : List EFragment} {k : Nat} (hk : k < l.length) : (rFragment l)[k * 5]? = some (.int .i64 l[k].1) ∧ (rFragment l)[k * 5 + 1]? = some (.int .i64 l[k].2.1) ∧ (rFragment l)[k * 5 + 2]? = some (.int .i64 l[k].2.2.1) ∧ (rFragment l)[k * 5 + 3]? = some (.int .i64 l[k].2.2.2.1) ∧ (rFragment l)[k * 5 + 4]? = some (.int .i64 l[k].2.2.2.2) := by
  have h := rowOf_at (f := cFragment) (s := 5) (fun _ => rfl) l k
  exact ⟨h 0 hk (by omega), h 1 hk (by omega), h 2 hk (by omega), h 3 hk (by omega), h 4 hk (by omega)⟩
end Go.Proofs.Ytaeajeclbcodeaa
