/- The reference's cursor over the bytes of a draw: what it hands back lies in its range, whatever the bytes. -/
import Derived.Test.YthpanpedoeghoaaMark
import Derived.BigQuiet
import Derived.Deep.QuietTactic
set_option linter.unusedVariables false
set_option linter.unusedSimpArgs false
set_option linter.unnecessarySimpa false
namespace Go.Proofs.Ythpanpedoeghoaa
open Go.RowKit
set_option linter.unusedVariables false
set_option maxRecDepth 20000
abbrev u8s (l : List Int) : List Value := l.map (Value.int .u8)
theorem u8s_at {l : List Int} {k : Nat} (h : k < l.length) : (u8s l)[k]? = some (.int .u8 l[k]) := by simp [h]
theorem and_small (x : Int) : 0 ≤ bits .and .i64 x 255 ∧ bits .and .i64 x 255 ≤ 255 := by
  have hb : (BitVec.ofInt 64 255).toNat = 255 := rfl
  have h1 : (BitVec.ofInt 64 x &&& BitVec.ofInt 64 255).toNat ≤ 255 := by
    rw [BitVec.toNat_and, hb]; exact Nat.and_le_right
  have h2 : bits .and .i64 x 255 = IntKind.i64.wrap ((BitVec.ofInt 64 x &&& BitVec.ofInt 64 255).toNat : Int) := rfl
  rw [h2, IntWalk.i64_in _ (by omega)]
  omega
/-- A slice that reads still reads, where only other blocks were changed. -/
theorem RS.only {w w' : World} {size n c B : Nat} {A : Option Addr} {xs : List Value} {G : List Nat} (h : RS w size A n c xs) (hO : Only B G w w') (hB : w.heap.size ≤ B) (hg : 0 < n → ∀ x, x ∈ gOf A → x ∉ G) : RS w' size A n c xs := by
  obtain ⟨hl, A', c', hs, h1, h2, hr⟩ := h
  refine ⟨hl, A', c', hs, h1, h2, fun hn => ?_⟩
  injection hs with e1 _ e2
  subst e1
  obtain ⟨b, o, h3, h4, h5, h6⟩ := hr hn
  refine ⟨b, o, h3, h4, Nat.lt_of_lt_of_le h5 hO.size, fun j hj => ?_⟩
  rw [← h6 j hj]
  exact (hO.cell b (by omega) (hg hn b (by rw [h3]; simp [gOf]))).1 _
theorem Only.mono {B B' : Nat} {G G' : List Nat} {a w : World} (h : Only B G a w) (hB : B' ≤ B) (hG : ∀ x, x ∈ G → x ∈ G' ∨ B' ≤ x) : Only B' G' a w :=
  ⟨h.os, h.tape, h.output, h.size, fun k hk hn => h.block k (by omega) (fun hx => (hG k hx).elim hn (fun h => by omega))⟩
theorem Only.alloc {B : Nat} {G : List Nat} {a w : World} (h : Only B G a w) (hB : B ≤ w.heap.size) (o : Obj) : Only B G a (w.alloc o) :=
  Only.trans h (Only.of_below ((Below.refl B w).alloc hB o) G) (Nat.le_refl _) (fun x hx => hx)
theorem Only.up {B : Nat} {G : List Nat} {a w : World} (h : Only B G a w) {p : Addr} (hp : B ≤ p.block) (u : Value) : Only B G a (w.setCell p u) :=
  ⟨h.os, h.tape, h.output, by simpa [World.setCell] using h.size, fun i hi hn => (Below.heap_setCell w p u i (by omega)).trans (h.block i hi hn)⟩
/-- The cursor in block g, over the code .slice A n c. -/
def Cur (T : TypeId) (w : World) (g : Nat) (A : Option Addr) (c : Nat) (l : List Int) : Prop :=
  ∃ (i : Nat) (h : Int), i ≤ l.length ∧ Own w g T [.slice A l.length c, .int .i64 i, .int .i64 h] ∧ RS w 1 A l.length c (u8s l) ∧ (0 < l.length → ∀ x, x ∈ gOf A → x < g)
section
variable {T : TypeId} {w w' : World} {g c : Nat} {A : Option Addr} {l : List Int}
theorem Cur.lt (h : Cur T w g A c l) : g < w.heap.size := by obtain ⟨i, x, _, ho, _⟩ := h; exact ho.lt
theorem Cur.step (hb : Below w.heap.size w w') (h : Cur T w g A c l) : Cur T w' g A c l := by
  obtain ⟨i, x, h1, ho, hr, hg⟩ := h
  exact ⟨i, x, h1, ho.step hb, RS.step hb hr, hg⟩
theorem Cur.stepB {B : Nat} (h : Cur T w g A c l) (hb : Below B w w') (hg : g < B) : Cur T w' g A c l := by
  obtain ⟨i, x, h1, ho, hr, hgA⟩ := h
  refine ⟨i, x, h1, ho.below hb hg, ?_, hgA⟩
  obtain ⟨hl, A', c', hs, h2, h3, hr⟩ := hr
  refine ⟨hl, A', c', hs, h2, h3, fun hn => ?_⟩
  injection hs with e1 _ e2
  subst e1
  obtain ⟨b, o, h4, h5, h6, h7⟩ := hr hn
  have hbB : b < B := Nat.lt_trans (hgA hn b (by rw [h4]; simp [gOf])) hg
  refine ⟨b, o, h4, h5, Nat.lt_of_lt_of_le h6 hb.size, fun j hj => ?_⟩
  rw [← h7 j hj]
  exact hb.cell (p := ⟨b, o + j, none⟩) hbB
theorem Cur.alloc (h : Cur T w g A c l) (o : Obj) : Cur T (w.alloc o) g A c l := h.step ((Below.refl _ _).alloc (Nat.le_refl _) o)
theorem Cur.drew (h : Cur T w g A c l) : Cur T w.drew g A c l := h
theorem Cur.drewN (h : Cur T w g A c l) (n : Nat) : Cur T (w.drewN n) g A c l := h
theorem Cur.only {B : Nat} {G : List Nat} (h : Cur T w g A c l) (hO : Only B G w w') (hB : w.heap.size ≤ B) (hG : g ∉ G) (hA : 0 < l.length → ∀ x, x ∈ gOf A → x ∉ G) : Cur T w' g A c l := by
  obtain ⟨i, x, h1, ho, hr, hg⟩ := h
  exact ⟨i, x, h1, hO.own ho (by have := ho.lt; omega) hG, RS.only hr hO hB hA, hg⟩
theorem Cur.far (h : Cur T w g A c l) {p : Addr} (hp : g < p.block) (u : Value) : Cur T (w.setCell p u) g A c l := by
  obtain ⟨i, x, h1, ho, hr, hg⟩ := h
  exact ⟨i, x, h1, ho.far (by omega) u, RS.only hr (Only.setCell (B := w.heap.size) (Only.refl _ [p.block] w) (by simp) u) (Nat.le_refl _) (fun hn x hx => by have := hg hn x hx; simp; omega), hg⟩
end
def CurR (w : World) (g : Nat) (A : Option Addr) (c : Nat) (l : List Int) (lo hi : Int) : Ending → World → Prop := fun e w' => ∃ x, e = .returned (.int .i64 x) ∧ lo ≤ x ∧ x ≤ hi ∧ Cur 73 w' g A c l ∧ Only w.heap.size [g] w w'
set_option maxHeartbeats 4000000 in
theorem S_byte {g c : Nat} {A : Option Addr} {l : List Int} (w : World) (h : Cur 73 w g A c l) :
    Calls Try.prog 18 #[.pointer (some ⟨g, 0, none⟩)] w (CurR w g A c l 0 255) := by
  obtain ⟨i, hh, hi, ho, hr, hgA⟩ := h
  have hlen := hr.len
  unfold maxLen at hlen
  have c0 := ho.cell 0
  have c1 := ho.cell 1
  have c2 := ho.cell 2
  have fz := ho.frozen
  simp only [List.getElem?_cons_zero, List.getElem?_cons_succ] at c0 c1 c2
  have HO := Lib.hid ho
  have HR := Lib.hid hr
  have HA := Lib.hid hgA
  have hlt := ho.lt
  clear ho hr hgA
  by_cases hin : i < l.length
  · obtain ⟨b, o, rfl, hb, hcell⟩ := HR.out.open_.2.2 (by omega)
    have hbg : b < g := HA.out (by omega) b (by simp [gOf])
    have x1 : w.cell? ⟨b, o + i, none⟩ = some (.int .u8 l[i]) := by rw [hcell i (by omega), u8s_at hin]
    have i1 : (i : Int) < l.length := by omega
    have i0 : (0 : Int) ≤ i := by omega
    have hne : ¬ g = b := by omega
    have w1' : IntKind.i64.wrap ((i : Int) + 1) = (i : Int) + 1 := IntWalk.i64_in _ (by omega)
    have HI := Lib.hid (show i + 1 ≤ l.length by omega)
    generalize l[i] = v at *
    clear hcell
    go_enter Try.func18, Try.ntmps18
    go_wp2_with fail
    go_quiet (fail)
    generalize hz : bits BinOp.and IntKind.i64 _ 255 = z
    have hz1 : 0 ≤ z ∧ z ≤ 255 := by rw [← hz]; exact and_small _
    generalize wrap64 (wrap64 (hh * 6364136223846793005) + 1442695040888963407) = h2 at *
    obtain ⟨z1, z2⟩ := hz1
    clear hz c2
    go_wp2_with fail
    go_quiet (fail)
    go_wp2_with fail
    go_quiet (fail)
    generalize hy : bits BinOp.and IntKind.i64 _ 255 = y
    have hy1 : 0 ≤ y ∧ y ≤ 255 := by rw [← hy]; exact and_small _
    clear hy
    go_wp2
    go_ret
    refine ⟨y, rfl, hy1.1, hy1.2, ⟨i + 1, h2, HI.out, ?_, ?_, HA.out⟩, ?_⟩
    · rw [show (((i + 1 : Nat) : Int)) = (i : Int) + 1 by simp]; exact Own.set_ (Own.drewN (Own.set_ HO.out 2 (.int .i64 h2)) _) 1 (.int .i64 ((i : Int) + 1))
    · exact (by repeat (first | (with_reducible exact HR.out) | (with_reducible refine RS.drewN ?_ _) | (with_reducible refine RS.drew ?_) | ((with_reducible refine RS.setCell ?_ ?_ _); rotate_left; (intro ad had; simp at had; subst had; simp; omega))))
    · exact Only.setCell (p := ⟨g, 1, none⟩) (Only.drewN (Only.setCell (p := ⟨g, 2, none⟩) (Only.refl _ _ _) (by simp) _) _) (by simp) _
  · have i1 : ¬ (i : Int) < l.length := by omega
    go_enter Try.func18, Try.ntmps18
    go_wp2_with fail
    go_quiet (fail)
    generalize hz : bits BinOp.and IntKind.i64 _ 255 = z
    have hz1 : 0 ≤ z ∧ z ≤ 255 := by rw [← hz]; exact and_small _
    generalize wrap64 (wrap64 (hh * 6364136223846793005) + 1442695040888963407) = h2 at *
    obtain ⟨z1, z2⟩ := hz1
    clear hz c2
    go_wp2_with fail
    go_quiet (fail)
    go_wp2
    go_ret
    refine ⟨z, rfl, z1, z2, ⟨i, h2, hi, ?_, ?_, HA.out⟩, ?_⟩
    · exact (by repeat (first | (with_reducible refine Own.drewN ?_ _) | (with_reducible refine Own.drew ?_) | exact Own.set_ HO.out 2 (.int .i64 h2)))
    · have hRS : RS (w.setCell ⟨g, 2, none⟩ (.int .i64 h2)) 1 A l.length c (u8s l) := RS.only HR.out (Only.setCell (B := w.heap.size) (p := ⟨g, 2, none⟩) (Only.refl _ [g] w) (by simp) _) (Nat.le_refl _) (fun hn x hx => by have := HA.out hn x hx; simp; omega)
      exact (by repeat (first | (with_reducible exact hRS) | (with_reducible refine RS.drewN ?_ _) | (with_reducible refine RS.drew ?_)))
    · exact (by repeat (first | (with_reducible refine Only.drewN ?_ _) | (with_reducible refine Only.drew ?_) | exact Only.setCell (p := ⟨g, 2, none⟩) (Only.refl _ _ _) (by simp) _))
set_option maxHeartbeats 4000000 in
theorem S_below {g c : Nat} {A : Option Addr} {l : List Int} {n : Int} (w : World) (h : Cur 73 w g A c l) (hn : 1 ≤ n ∧ n ≤ 256) :
    Calls Try.prog 28 #[.pointer (some ⟨g, 0, none⟩), .int .i64 n] w (CurR w g A c l 0 (n - 1)) := by
  obtain ⟨n1, n2⟩ := hn
  have HC := Lib.hid h
  clear h
  go_enter Try.func28, Try.ntmps28
  go_wp2_with fail
  refine (S_byte _ HC.out).mono ?_
  rintro e w' ⟨x, rfl, x1, x2, hc, hO⟩
  have y1 : 0 ≤ x % n := Int.emod_nonneg _ (by omega)
  have y2 : x % n ≤ n - 1 := by have := Int.emod_lt_of_pos x (show 0 < n by omega); omega
  have w1' : IntKind.i64.wrap (x % n) = x % n := IntWalk.i64_in _ (by omega)
  have n0 : (n == 0) = false := by rw [beq_eq_false_iff_ne]; omega
  have HC' := Lib.hid hc
  have HO := Lib.hid hO
  clear hc hO
  go_wp2
  go_ret
  exact ⟨_, rfl, y1, y2, HC'.out, HO.out⟩
set_option maxHeartbeats 4000000 in
theorem S_below4 {g c : Nat} {A : Option Addr} {l : List Int} {n : Int} (w : World) (h : Cur 73 w g A c l) (hn : 257 ≤ n ∧ n ≤ 1000000) :
    Calls Try.prog 28 #[.pointer (some ⟨g, 0, none⟩), .int .i64 n] w (CurR w g A c l 0 (n - 1)) := by
  obtain ⟨n1, n2⟩ := hn
  have HC := Lib.hid h
  clear h
  go_enter Try.func28, Try.ntmps28
  go_wp2_with fail
  refine (S_byte _ HC.out).mono ?_
  rintro e u1 ⟨a, rfl, a1, a2, hc, hO⟩
  have HC1 := Lib.hid hc
  have HO1 := Lib.hid hO
  have z1 := hO.size
  clear hc hO
  go_wp2_with fail
  refine (S_byte _ HC1.out).mono ?_
  rintro e u2 ⟨b, rfl, b1, b2, hc, hO⟩
  have HC2 := Lib.hid hc
  have HO2 := Lib.hid hO
  have z2 := hO.size
  clear hc hO
  go_wp2_with fail
  refine (S_byte _ HC2.out).mono ?_
  rintro e u3 ⟨d, rfl, d1, d2, hc, hO⟩
  have HC3 := Lib.hid hc
  have HO3 := Lib.hid hO
  have z3 := hO.size
  clear hc hO
  go_wp2_with fail
  refine (S_byte _ HC3.out).mono ?_
  rintro e u4 ⟨f, rfl, f1, f2, hc, hO⟩
  have HC4 := Lib.hid hc
  have HO4 := Lib.hid (Only.trans HO1.out (Only.trans HO2.out (Only.trans HO3.out hO z3 (fun x hx => hx)) z2 (fun x hx => hx)) z1 (fun x hx => hx))
  clear hc hO
  obtain ⟨x, hx⟩ : ∃ x, a * 16777216 + b * 65536 + d * 256 + f = x := ⟨_, rfl⟩
  have v1 : IntKind.i64.wrap (a * 16777216) = a * 16777216 := IntWalk.i64_in _ (by omega)
  have v2 : IntKind.i64.wrap (b * 65536) = b * 65536 := IntWalk.i64_in _ (by omega)
  have v3 : IntKind.i64.wrap (a * 16777216 + b * 65536) = a * 16777216 + b * 65536 := IntWalk.i64_in _ (by omega)
  have v4 : IntKind.i64.wrap (d * 256) = d * 256 := IntWalk.i64_in _ (by omega)
  have v5 : IntKind.i64.wrap (a * 16777216 + b * 65536 + d * 256) = a * 16777216 + b * 65536 + d * 256 := IntWalk.i64_in _ (by omega)
  have v6 : IntKind.i64.wrap (a * 16777216 + b * 65536 + d * 256 + f) = x := by rw [hx]; exact IntWalk.i64_in _ (by omega)
  have x1 : 0 ≤ x := by omega
  have y1 : 0 ≤ x % n := Int.emod_nonneg _ (by omega)
  have y2 : x % n ≤ n - 1 := by have := Int.emod_lt_of_pos x (show 0 < n by omega); omega
  have w1' : IntKind.i64.wrap (x % n) = x % n := IntWalk.i64_in _ (by omega)
  have n0 : (n == 0) = false := by rw [beq_eq_false_iff_ne]; omega
  clear hx
  go_wp2
  go_ret
  exact ⟨_, rfl, y1, y2, HC4.out, HO4.out⟩
/-- A new cursor. -/
def NewCur (w : World) (A : Option Addr) (c : Nat) (l : List Int) : Ending → World → Prop := fun e w' => ∃ g, e = .returned (.pointer (some ⟨g, 0, none⟩)) ∧ w.heap.size ≤ g ∧ Cur 73 w' g A c l ∧ Below w.heap.size w w'
set_option maxHeartbeats 4000000 in
theorem S_newCur {c : Nat} {A : Option Addr} {l : List Int} (w : World) (hl : l.length ≤ 1048576) (h : RS w 1 A l.length c (u8s l)) :
    Calls Try.prog 13 #[.slice A l.length c] w (NewCur w A c l) := by
  have HR := Lib.hid h
  have hcm := h.open_
  clear h
  have w0 : IntKind.i64.wrap (1953 + (l.length : Int)) = 1953 + (l.length : Int) := IntWalk.i64_in _ (by omega)
  go_enter Try.func13, Try.ntmps13
  go_wp2_with fail
  go_loopw [3, 4] (fun hh i wr => ∃ (k : Nat) (x : Int), k ≤ l.length ∧ i = .int .i64 k ∧ hh = .int .i64 x ∧ Below w.heap.size w wr) (fun _ i _ => l.length - (intOf i).toNat)
  case atStart => exact ⟨0, _, Nat.zero_le _, rfl, rfl, Below.refl _ _⟩
  case round =>
    obtain ⟨k, x, hk, rfl, rfl, hb⟩ := hrel
    have HB := Lib.hid hb
    have HRr := Lib.hid (RS.step hb HR.out)
    clear hb
    by_cases hlt : k < l.length ∧ k < 4000
    · obtain ⟨hlt1, hlt2⟩ := hlt
      obtain ⟨b, o, rfl, hbh, hcell⟩ := HRr.out.open_.2.2 (by omega)
      have x1 : wr.cell? ⟨b, o + k, none⟩ = some (.int .u8 l[k]) := by rw [hcell k (by omega), u8s_at hlt1]
      have i0 : (0 : Int) ≤ k := by omega
      have i1 : (k : Int) < l.length := by omega
      have i2 : (k : Int) < 4000 := by omega
      have w1' : IntKind.i64.wrap ((k : Int) + 1) = (k : Int) + 1 := IntWalk.i64_in _ (by omega)
      clear hcell
      generalize l[k] = v at *
      go_wp2_with fail
      go_roundw
      case rel => exact ⟨k + 1, _, by omega, by go_num, rfl, (by repeat (first | (with_reducible exact Below.refl _ _) | (with_reducible exact HB.out) | (with_reducible assumption) | ((with_reducible refine Below.alloc ?_ ?_ _); rotate_left; (first | omega | (simp <;> omega))) | ((with_reducible refine Below.setCell ?_ ?_ _); rotate_left; (first | omega | (simp <;> omega))) | (with_reducible refine below_drewN ?_ _) | (with_reducible refine Below.drew ?_) | ((with_reducible refine Below.step (by assumption) ?_ ?_); rotate_left; (first | omega | (simp <;> omega)))))⟩
      case measure => simp [intOf]; omega
    · have hend : ¬ (k : Int) < l.length ∨ ((k : Int) < l.length ∧ ¬ (k : Int) < 4000) := by omega
      clear hlt
      rcases hend with i1 | ⟨i1, i2⟩
      all_goals
        have hg : 0 < l.length → ∀ z, z ∈ gOf A → z < wr.heap.size := by
          intro hp z hz
          obtain ⟨b, o, rfl, hbh, _⟩ := HRr.out.open_.2.2 hp
          simp [gOf] at hz
          omega
        go_wp2
        go_ret
        refine ⟨wr.heap.size, rfl, HB.out.size, ⟨0, x, Nat.zero_le _, Own.new _ _ _, HRr.out.alloc _, hg⟩, Below.alloc HB.out HB.out.size _⟩
set_option maxHeartbeats 4000000 in
theorem S_newCurN {c n : Nat} {A : Option Addr} {l : List Int} (w : World) (hl : l.length ≤ 1048576) (hn : n ≤ 1000) (h : RS w 1 A l.length c (u8s l)) :
    Calls Try.prog 17 #[.slice A l.length c, .int .i64 n] w (NewCur w A c l) := by
  have HR := Lib.hid h
  clear h
  go_enter Try.func17, Try.ntmps17
  go_wp2_with fail
  refine (S_newCur _ hl HR.out).mono ?_
  rintro e w1 ⟨g, rfl, hg, hc, hb⟩
  have HC := Lib.hid hc
  have HB := Lib.hid hb
  have hlt := hc.lt
  clear hc hb
  go_wp2_with fail
  go_loopw [6] (fun i wr => ∃ (k : Nat), k ≤ n ∧ i = .int .i64 k ∧ Cur 73 wr g A c l ∧ Only w1.heap.size [g] w1 wr) (fun i _ => n - (intOf i).toNat)
  case atStart => exact ⟨0, Nat.zero_le _, rfl, HC.out, Only.refl _ _ _⟩
  case round =>
    obtain ⟨k, hk, rfl, hc, hO⟩ := hrel
    have HCr := Lib.hid hc
    have HO := Lib.hid hO
    have hz := hO.size
    clear hc hO
    by_cases hlt1 : k < n
    · have i1 : (k : Int) < n := by omega
      have w1' : IntKind.i64.wrap ((k : Int) + 1) = (k : Int) + 1 := IntWalk.i64_in _ (by omega)
      go_wp2_with fail
      refine (S_byte _ HCr.out).mono ?_
      rintro e w2 ⟨x, rfl, x1, x2, hc, hO⟩
      have HC2 := Lib.hid hc
      have HO2 := Lib.hid (Only.trans HO.out hO hz (fun x hx => hx))
      clear hc hO
      go_wp2
      go_roundw
      case rel => exact ⟨k + 1, by omega, by go_num, HC2.out, HO2.out⟩
      case measure => simp [intOf]; omega
    · have i1 : ¬ (k : Int) < n := by omega
      go_wp2
      go_ret
      exact ⟨g, rfl, hg, HCr.out, Below.trans HB.out (HO.out.below HB.out.size (fun x hx => by simp at hx; omega))⟩
set_option maxHeartbeats 4000000 in
theorem S_makeNum {c n : Nat} {A : Option Addr} {l : List Int} (w : World) (hl : l.length ≤ 1048576) (hn : n ≤ 1000) (h : RS w 1 A l.length c (u8s l)) :
    Calls Try.prog 6 #[.slice A l.length c, .int .i64 n] w fun e w' => ∃ x, e = .returned (.int .i64 x) ∧ 0 ≤ x ∧ x ≤ 65535 ∧ Below w.heap.size w w' := by
  have HR := Lib.hid h
  clear h
  go_enter Try.func6, Try.ntmps6
  go_wp2_with fail
  refine (S_newCurN _ hl hn HR.out).mono ?_
  rintro e w1 ⟨g, rfl, hg, hc, hb⟩
  have HC := Lib.hid hc
  have HB := Lib.hid hb
  clear hc hb
  go_wp2_with fail
  refine (S_byte _ HC.out).mono ?_
  rintro e w2 ⟨a, rfl, a1, a2, hc, hO⟩
  have HC2 := Lib.hid hc
  have HB2 : Hid (Below w.heap.size w w2) := Lib.hid (Below.trans HB.out (hO.below HB.out.size (fun x hx => by simp at hx; omega)))
  have hz2 := hO.size
  clear hc hO
  go_wp2_with fail
  refine (S_byte _ HC2.out).mono ?_
  rintro e w3 ⟨b, rfl, b1, b2, hc, hO⟩
  have HB3 : Hid (Below w.heap.size w w3) := Lib.hid (Below.trans HB2.out (hO.below HB2.out.size (fun x hx => by simp at hx; omega)))
  clear hc hO
  have v1 : IntKind.i64.wrap (a * 256) = a * 256 := IntWalk.i64_in _ (by omega)
  have v2 : IntKind.i64.wrap (a * 256 + b) = a * 256 + b := IntWalk.i64_in _ (by omega)
  go_wp2
  go_ret
  exact ⟨_, rfl, by omega, by omega, HB3.out⟩
end Go.Proofs.Ythpanpedoeghoaa
