/- MADE BY PROGRAM (gentr.py). The reference's draw of an expression and of a source. -/
import Derived.Test.YtnlbojckobgjpaaGreatDoorDrawTr
set_option linter.unusedVariables false
set_option linter.unusedSimpArgs false
namespace Go.Proofs.YtnlbojckobgjpaaGreatDoor
open Go.RowKit Go.Lib
set_option maxRecDepth 100000
theorem Only.then_ {g : Nat} {w a b : World} (h : Only w.heap.size [g] w a) (k : Only a.heap.size [g] a b) : Only w.heap.size [g] w b := Only.trans h k h.size (fun x hx => hx)
theorem Only.thenA {g : Nat} {w a b : World} {o : Obj} (h : Only w.heap.size [g] w a) (k : Only (a.alloc o).heap.size [g] (a.alloc o) b) : Only w.heap.size [g] w b :=
  Only.trans (Only.alloc h h.size o) (k.mono (by have := h.size; simp <;> omega) (fun x hx => Or.inl hx)) h.size (fun x hx => hx)
theorem bB_rng {n : Nat} (h : n ≤ 2) : 4 ≤ bB n ∧ bB n ≤ 40 := by rcases (show n = 0 ∨ n = 1 ∨ n = 2 by omega) with rfl | rfl | rfl <;> decide
theorem bW_rng {n : Nat} (h : n ≤ 2) : 1 ≤ bW n := by rcases (show n = 0 ∨ n = 1 ∨ n = 2 by omega) with rfl | rfl | rfl <;> decide
theorem TX.len {n D B : Nat} {s : List UInt8} (h : TX n D B s) : s.length ≤ B := by obtain ⟨_, _, _, _, _, h⟩ := h; exact h
set_option maxHeartbeats 16000000 in
theorem S_expr {g c : Nat} {A : Option Addr} {l : List Int} : ∀ (n : Nat), n ≤ 2 → ∀ (d : Int) (w : World), Cur 85 w g A c l → -10 ≤ d → d ≤ n → Calls Tryz.prog 32 #[.pointer (some ⟨g, 0, none⟩), .int .i64 d] w (ExpR w g A c l (bW n) n (bB n)) := by
  intro n
  induction n with
  | zero => intro _ d w h _ hd; exact S_exprLeaf w h (by omega) (by decide) (by decide)
  | succ n ih =>
    intro hn d w h hlo hd
    by_cases h0 : d ≤ 0
    · exact S_exprLeaf w h h0 (bW_rng hn) (bB_rng hn).1
    have HI := Lib.hid (ih (by omega))
    have hW := bW_rng (show n ≤ 2 by omega)
    have hB := bB_rng (show n ≤ 2 by omega)
    rw [show bW (n + 1) = 2 * bW n + 2 from rfl, show bB (n + 1) = 2 * bB n + 8 from rfl]
    have hgl := h.lt
    have HC := Lib.hid h
    have v1 : IntKind.i64.wrap (d - 1) = d - 1 := IntWalk.i64_in _ (by omega)
    have v2 : IntKind.i64.wrap (d - 2) = d - 2 := IntWalk.i64_in _ (by omega)
    clear h ih
    generalize bW n = W at *
    generalize bB n = B at *
    go_enter Tryz.func32, Tryz.ntmps32
    go_wp2_with fail
    refine (S_onceT (n := 3) _ HC.out (by omega)).mono ?_
    rintro e w1 ⟨b, rfl, hc, hO⟩
    have hz1 := hO.size
    have HC1 := Lib.hid hc
    have HO1 := Lib.hid hO
    clear hc hO
    cases b with
    | true =>
      go_wp2_with fail
      refine (S_str (xs := leafs) _ (HC1.out.alloc _) (Grow.rs (base := 0) (n := 10) (c := 10) (by repeat (first | (with_reducible refine Grow.drewN ?_ _) | (with_reducible refine Grow.drew ?_) | (refine Grow.lit_at (by simp) (by rfl) (Nat.zero_le _) (by unfold maxLen; omega))))) (by decide) (by omega)).mono ?_
      rintro e w2 ⟨s, hs, rfl, hc, hO⟩
      have HC2 := Lib.hid hc
      have HO2 := Lib.hid (HO1.out.thenA hO)
      have HS := Lib.hid hs
      clear hc hO hs
      go_wp2
      go_ret
      exact ⟨s, rfl, (TX.leaf HS.out).mono (by omega) (Nat.zero_le _) (by omega), HC2.out, HO2.out⟩
    | false =>
      go_wp2_with fail
      refine (HI.out (d - 1) _ HC1.out (by omega) (by omega)).mono ?_
      rintro e w2 ⟨s, rfl, hs, hc, hO⟩
      have hz2 := hO.size
      have hls := hs.len
      have HC2 := Lib.hid hc
      have HO2 := Lib.hid (HO1.out.then_ hO)
      have HS := Lib.hid hs
      clear hc hO hs
      go_wp2_with fail
      refine (S_below (n := 10) _ HC2.out (by omega)).mono ?_
      rintro e w3 ⟨x, rfl, x0, x1, hc, hO⟩
      have hz3 := hO.size
      have HC3 := Lib.hid hc
      have HO3 := Lib.hid (HO2.out.then_ hO)
      clear hc hO
      rcases (show x = 0 ∨ x = 1 ∨ x = 2 ∨ x = 3 ∨ x = 4 ∨ x = 5 ∨ x = 6 ∨ x = 7 ∨ x = 8 ∨ x = 9 by omega) with rfl | rfl | rfl | rfl | rfl | rfl | rfl | rfl | rfl | rfl
      · have s0 : ¬ 9223372036854775807 < s.length + 3 := by omega
        have s1 : ¬ 9223372036854775807 < s.length + 3 + B := by omega
        go_wp2_with fail
        refine (S_str (xs := opTs) _ (HC3.out.alloc _) (Grow.rs (base := 0) (n := 5) (c := 5) (by repeat (first | (with_reducible refine Grow.drewN ?_ _) | (with_reducible refine Grow.drew ?_) | (refine Grow.lit_at (by simp) (by rfl) (Nat.zero_le _) (by unfold maxLen; omega))))) (by decide) (by omega)).mono ?_
        rintro e w4 ⟨o, ho, rfl, hc, hO⟩
        have hz4 := hO.size
        (try simp at hz4)
        have hol : o.length ≤ 3 := by simp only [opTs, List.mem_cons, List.not_mem_nil, or_false] at ho; rcases ho with rfl | rfl | rfl | rfl | rfl <;> decide
        have HC4 := Lib.hid hc
        have HO4 := Lib.hid (HO3.out.thenA hO)
        have HOP := Lib.hid ho
        have t0 : ¬ 9223372036854775807 < s.length + o.length := by omega
        clear hc hO ho
        go_wp2_with fail
        refine (HI.out (d - 1) _ HC4.out (by omega) (by omega)).mono ?_
        rintro e w5 ⟨t, rfl, ht, hc, hO⟩
        have hlt := ht.len
        have HC5 := Lib.hid hc
        have HO5 := Lib.hid (HO4.out.then_ hO)
        have HT := Lib.hid ht
        have t1 : ¬ 9223372036854775807 < s.length + o.length + t.length := by omega
        clear hc hO ht
        go_wp2_with fail
        go_ret
        refine ⟨s ++ o ++ t, ?_, (TX.bin HS.out HT.out HOP.out).mono (by omega) (by omega) (by omega), HC5.out, HO5.out⟩
        show Ending.returned (Value.string ((({ data := s.toArray } : ByteArray) ++ { data := o.toArray }) ++ { data := t.toArray })) = _
        rw [str_cat, str_cat]
      · have s0 : ¬ 9223372036854775807 < s.length + 3 := by omega
        have s1 : ¬ 9223372036854775807 < s.length + 3 + B := by omega
        go_wp2_with fail
        refine (S_str (xs := opTs) _ (HC3.out.alloc _) (Grow.rs (base := 0) (n := 5) (c := 5) (by repeat (first | (with_reducible refine Grow.drewN ?_ _) | (with_reducible refine Grow.drew ?_) | (refine Grow.lit_at (by simp) (by rfl) (Nat.zero_le _) (by unfold maxLen; omega))))) (by decide) (by omega)).mono ?_
        rintro e w4 ⟨o, ho, rfl, hc, hO⟩
        have hz4 := hO.size
        (try simp at hz4)
        have hol : o.length ≤ 3 := by simp only [opTs, List.mem_cons, List.not_mem_nil, or_false] at ho; rcases ho with rfl | rfl | rfl | rfl | rfl <;> decide
        have HC4 := Lib.hid hc
        have HO4 := Lib.hid (HO3.out.thenA hO)
        have HOP := Lib.hid ho
        have t0 : ¬ 9223372036854775807 < s.length + o.length := by omega
        clear hc hO ho
        go_wp2_with fail
        refine (HI.out (d - 1) _ HC4.out (by omega) (by omega)).mono ?_
        rintro e w5 ⟨t, rfl, ht, hc, hO⟩
        have hlt := ht.len
        have HC5 := Lib.hid hc
        have HO5 := Lib.hid (HO4.out.then_ hO)
        have HT := Lib.hid ht
        have t1 : ¬ 9223372036854775807 < s.length + o.length + t.length := by omega
        clear hc hO ht
        go_wp2_with fail
        go_ret
        refine ⟨s ++ o ++ t, ?_, (TX.bin HS.out HT.out HOP.out).mono (by omega) (by omega) (by omega), HC5.out, HO5.out⟩
        show Ending.returned (Value.string ((({ data := s.toArray } : ByteArray) ++ { data := o.toArray }) ++ { data := t.toArray })) = _
        rw [str_cat, str_cat]
      · have s0 : ¬ 9223372036854775807 < 1 + s.length := by omega
        have s1 : ¬ 9223372036854775807 < 1 + s.length + 1 := by omega
        go_wp2_with fail
        go_ret
        refine ⟨[40] ++ s ++ [41], ?_, (TX.par HS.out).mono (by omega) (by omega) (by omega), HC3.out, HO3.out⟩
        show Ending.returned (Value.string ((({ data := [40].toArray } : ByteArray) ++ { data := s.toArray }) ++ { data := [41].toArray })) = _
        rw [str_cat, str_cat]
      · have s0 : ¬ 9223372036854775807 < 1 + s.length := by omega
        go_wp2_with fail
        go_ret
        refine ⟨[45] ++ s, ?_, (TX.neg HS.out).mono (by omega) (by omega) (by omega), HC3.out, HO3.out⟩
        show Ending.returned (Value.string (({ data := [45].toArray } : ByteArray) ++ { data := s.toArray })) = _
        rw [str_cat]
      · have s0 : ¬ 9223372036854775807 < 4 + s.length := by omega
        have s1 : ¬ 9223372036854775807 < 4 + s.length + 2 := by omega
        go_wp2_with fail
        refine (HI.out (d - 1) _ HC3.out (by omega) (by omega)).mono ?_
        rintro e w5 ⟨t, rfl, ht, hc, hO⟩
        have hlt := ht.len
        have HC5 := Lib.hid hc
        have HO5 := Lib.hid (HO3.out.then_ hO)
        have HT := Lib.hid ht
        have t1 : ¬ 9223372036854775807 < 4 + s.length + 2 + t.length := by omega
        have t2 : ¬ 9223372036854775807 < 4 + s.length + 2 + t.length + 1 := by omega
        clear hc hO ht
        go_wp2_with fail
        go_ret
        refine ⟨[109, 105, 110, 40] ++ s ++ [44, 32] ++ t ++ [41], ?_, (TX.call2 (x := [109, 105, 110]) (m := [44, 32]) (by decide) (by simp) HS.out HT.out).mono (by omega) (by omega) (by simp; omega), HC5.out, HO5.out⟩
        show Ending.returned (Value.string ((((({ data := [109, 105, 110, 40].toArray } : ByteArray) ++ { data := s.toArray }) ++ { data := [44, 32].toArray }) ++ { data := t.toArray }) ++ { data := [41].toArray })) = _
        rw [str_cat, str_cat, str_cat, str_cat]
      · have s0 : ¬ 9223372036854775807 < 4 + s.length := by omega
        have s1 : ¬ 9223372036854775807 < 4 + s.length + 1 := by omega
        go_wp2_with fail
        refine (HI.out (d - 1) _ HC3.out (by omega) (by omega)).mono ?_
        rintro e w5 ⟨t, rfl, ht, hc, hO⟩
        have hlt := ht.len
        have HC5 := Lib.hid hc
        have HO5 := Lib.hid (HO3.out.then_ hO)
        have HT := Lib.hid ht
        have t1 : ¬ 9223372036854775807 < 4 + s.length + 1 + t.length := by omega
        have t2 : ¬ 9223372036854775807 < 4 + s.length + 1 + t.length + 1 := by omega
        clear hc hO ht
        go_wp2_with fail
        go_ret
        refine ⟨[109, 97, 120, 40] ++ s ++ [44] ++ t ++ [41], ?_, (TX.call2 (x := [109, 97, 120]) (m := [44]) (by decide) (by simp) HS.out HT.out).mono (by omega) (by omega) (by simp; omega), HC5.out, HO5.out⟩
        show Ending.returned (Value.string ((((({ data := [109, 97, 120, 40].toArray } : ByteArray) ++ { data := s.toArray }) ++ { data := [44].toArray }) ++ { data := t.toArray }) ++ { data := [41].toArray })) = _
        rw [str_cat, str_cat, str_cat, str_cat]
      · have s0 : ¬ 9223372036854775807 < 4 + s.length := by omega
        have s1 : ¬ 9223372036854775807 < 4 + s.length + 1 := by omega
        go_wp2_with fail
        go_ret
        refine ⟨[97, 98, 115, 40] ++ s ++ [41], ?_, (TX.call1 (x := [97, 98, 115]) (by decide) HS.out).mono (by omega) (by omega) (by simp; omega), HC3.out, HO3.out⟩
        show Ending.returned (Value.string ((({ data := [97, 98, 115, 40].toArray } : ByteArray) ++ { data := s.toArray }) ++ { data := [41].toArray })) = _
        rw [str_cat, str_cat]
      · have s0 : ¬ 9223372036854775807 < 6 + s.length := by omega
        have s1 : ¬ 9223372036854775807 < 6 + s.length + 5 := by omega
        go_wp2_with fail
        go_ret
        refine ⟨[99, 108, 97, 109, 112, 40] ++ s ++ [44, 48, 44, 49, 41], ?_, by simpa using (TX.call3 (x := [99, 108, 97, 109, 112]) (by decide) HS.out (TX.zero.mono (Nat.le_refl _) (Nat.zero_le _) (Nat.le_refl _)) (TX.one.mono (Nat.le_refl _) (Nat.zero_le _) (Nat.le_refl _))).mono (n' := 2 * W + 2) (D' := n + 1) (B' := 2 * B + 8) (by omega) (by omega) (by simp; omega), HC3.out, HO3.out⟩
        show Ending.returned (Value.string ((({ data := [99, 108, 97, 109, 112, 40].toArray } : ByteArray) ++ { data := s.toArray }) ++ { data := [44, 48, 44, 49, 41].toArray })) = _
        rw [str_cat, str_cat]
      · go_wp2_with fail
        refine (S_str (xs := fnNs) _ (HC3.out.alloc _) (Grow.rs (base := 0) (n := 4) (c := 4) (by repeat (first | (with_reducible refine Grow.drewN ?_ _) | (with_reducible refine Grow.drew ?_) | (refine Grow.lit_at (by simp) (by rfl) (Nat.zero_le _) (by unfold maxLen; omega))))) (by decide) (by omega)).mono ?_
        rintro e w4 ⟨o, ho, rfl, hc, hO⟩
        obtain ⟨a, b, r, rfl, hab⟩ : ∃ a b r, o = a :: b :: r ∧ isIdent [a, b] = true := by
          simp only [fnNs, List.mem_cons, List.not_mem_nil, or_false] at ho
          rcases ho with rfl | rfl | rfl | rfl <;> exact ⟨_, _, _, rfl, by decide⟩
        have HC4 := Lib.hid hc
        have HO4 := Lib.hid (HO3.out.thenA hO)
        have HAB := Lib.hid hab
        have ec := cut2 (a := a) (b := b) (r := r)
        have el : (2 : Int) ≤ r.length + 1 + 1 := by omega
        have t0 : ¬ 9223372036854775807 < 3 + s.length := by omega
        have t1 : ¬ 9223372036854775807 < 3 + s.length + 1 := by omega
        clear hc hO ho hab
        go_wp2_with fail
        go_ret
        refine ⟨[a, b, 40] ++ s ++ [41], ?_, (TX.call1 (x := [a, b]) HAB.out HS.out).mono (by omega) (by omega) (by simp; omega), HC4.out, HO4.out⟩
        show Ending.returned (Value.string (((({ data := #[a, b] } : ByteArray) ++ { data := [40].toArray }) ++ { data := s.toArray }) ++ { data := [41].toArray })) = _
        rw [str_cat, str_cat, str_cat]; rfl
      · have s0 : ¬ 9223372036854775807 < 4 + s.length := by omega
        have s1 : ¬ 9223372036854775807 < 4 + s.length + 1 := by omega
        go_wp2_with fail
        refine (HI.out (d - 2) _ HC3.out (by omega) (by omega)).mono ?_
        rintro e w5 ⟨t, rfl, ht, hc, hO⟩
        have hlt := ht.len
        have HC5 := Lib.hid hc
        have HO5 := Lib.hid (HO3.out.then_ hO)
        have HT := Lib.hid ht
        have t1 : ¬ 9223372036854775807 < 4 + s.length + 1 + t.length := by omega
        have t2 : ¬ 9223372036854775807 < 4 + s.length + 1 + t.length + 3 := by omega
        clear hc hO ht
        go_wp2_with fail
        go_ret
        refine ⟨[109, 105, 120, 40] ++ s ++ [44] ++ t ++ [44, 117, 41], ?_, by simpa using (TX.call3 (x := [109, 105, 120]) (by decide) HS.out HT.out ((TX.name (s := [117]) (by decide)).mono (Nat.le_refl _) (Nat.zero_le _) (Nat.le_refl _))).mono (n' := 2 * W + 2) (D' := n + 1) (B' := 2 * B + 8) (by omega) (by omega) (by simp; omega), HC5.out, HO5.out⟩
        show Ending.returned (Value.string ((((({ data := [109, 105, 120, 40].toArray } : ByteArray) ++ { data := s.toArray }) ++ { data := [44].toArray }) ++ { data := t.toArray }) ++ { data := [44, 117, 41].toArray })) = _
        rw [str_cat, str_cat, str_cat, str_cat]
set_option maxHeartbeats 8000000 in
theorem S_program {g c : Nat} {A : Option Addr} {l : List Int} (w : World) (h : Cur 85 w g A c l) :
    Calls Tryz.prog 13 #[.pointer (some ⟨g, 0, none⟩)] w fun e w' => ∃ s, e = .returned (str s) ∧ PT 18 3 100 s ∧ s ≠ [] ∧ Cur 85 w' g A c l ∧ Only w.heap.size [g] w w' := by
  have hgl := h.lt
  have HC := Lib.hid h
  clear h
  go_enter Tryz.func13, Tryz.ntmps13
  go_wp2_with fail
  refine (S_below (n := 2) _ HC.out (by omega)).mono ?_
  rintro e w1 ⟨x, rfl, x0, x1, hc, hO⟩
  have HC1 := Lib.hid hc
  have HO1 := Lib.hid hO
  clear hc hO
  obtain ⟨N, rfl⟩ : ∃ N : Nat, x = N := ⟨x.toNat, by omega⟩
  have hN : N ≤ 1 := by omega
  go_wp2_with fail
  go_loopw [3, 4] (fun s_ n_ wr => ∃ (m k : Nat) (s : List UInt8), m + k = N ∧ s_ = str s ∧ n_ = .int .i64 m ∧ PT (4 * k) k (22 * k) s ∧ Cur 85 wr g A c l ∧ Only w.heap.size [g] w wr) (fun _ n_ _ => (RowKit.intOf n_).toNat)
  case atStart => exact ⟨N, 0, [], rfl, rfl, rfl, PT.nil, HC1.out, HO1.out⟩
  case round =>
    obtain ⟨m, k, s, hmk, rfl, rfl, hp, hc, hO⟩ := hrel
    have HP := Lib.hid hp
    have HCr := Lib.hid hc
    have HOr := Lib.hid hO
    have hk1 : k ≤ 1 := by omega
    have hsl : s.length ≤ 22 := by obtain ⟨_, _, _, _, _, h, _⟩ := hp; omega
    clear hp hc hO
    by_cases hlt : 0 < m
    · have i1 : (0 : Int) < m := by omega
      have hm1 : IntKind.i64.wrap ((m : Int) - 1) = ((m - 1 : Nat) : Int) := by rw [show (m : Int) - 1 = ((m - 1 : Nat) : Int) by omega]; exact IntWalk.i64_in _ (by omega)
      have t0 : ¬ 9223372036854775807 < s.length + 4 := by omega
      go_wp2_with fail
      refine (S_expr 1 (by omega) 1 _ HCr.out (by omega) (by omega)).mono ?_
      rintro e w2 ⟨t, rfl, ht, hc, hO⟩
      have hlt := ht.len
      have hb1 : bB 1 = 16 := rfl
      have HC2 := Lib.hid hc
      have HO2 := Lib.hid (HOr.out.then_ hO)
      have HT := Lib.hid ht
      have t1 : ¬ 9223372036854775807 < s.length + 4 + t.length := by omega
      have t2 : ¬ 9223372036854775807 < s.length + 4 + t.length + 1 := by omega
      clear hc hO ht hb1
      go_wp2_with fail
      go_roundw
      case rel =>
        refine ⟨m - 1, k + 1, s ++ ([107] ++ [32, 61, 32]) ++ t ++ ([59] ++ []), by omega, ?_, rfl, ?_, HC2.out, HO2.out⟩
        · show Value.string (((({ data := s.toArray } : ByteArray) ++ { data := [107, 32, 61, 32].toArray }) ++ { data := t.toArray }) ++ { data := [59].toArray }) = _
          rw [str_cat, str_cat, str_cat]; rfl
        · exact (PT.snoc HP.out (x := [107]) (by decide) HT.out (by omega) (.inl rfl)).mono (by show 4 * k + 4 ≤ _; omega) (by omega) (by show 22 * k + 1 + 16 + 5 ≤ _; omega)
      case measure => simp [RowKit.intOf]; omega
    · obtain rfl : m = 0 := by omega
      have t0 : ¬ 9223372036854775807 < s.length + 8 := by omega
      go_wp2_with fail
      refine (S_expr 2 (by omega) 2 _ HCr.out (by omega) (by omega)).mono ?_
      rintro e w2 ⟨t, rfl, ht, hc, hO⟩
      have hlt := ht.len
      have hb1 : bB 2 = 40 := rfl
      have HC2 := Lib.hid hc
      have HO2 := Lib.hid (HOr.out.then_ hO)
      have t1 : ¬ 9223372036854775807 < s.length + 8 + t.length := by omega
      have t2 : ¬ 9223372036854775807 < s.length + 8 + t.length + 2 := by omega
      have HP2 := Lib.hid ((PT.snoc HP.out (x := [99, 111, 108, 111, 114]) (by decide) ht (by omega) (.inr rfl)).mono (m' := 14) (q' := 2) (B' := 72) (by show 4 * k + 10 ≤ _; omega) (by omega) (by show 22 * k + 5 + 40 + 5 ≤ _; omega))
      have HE : Hid ((((({ data := s.toArray } : ByteArray) ++ { data := #[99, 111, 108, 111, 114, 32, 61, 32] }) ++ { data := t.toArray }) ++ { data := #[59, 10] }) = { data := (s ++ ([99, 111, 108, 111, 114] ++ [32, 61, 32]) ++ t ++ ([59] ++ [10])).toArray }) := Lib.hid (by
        show (((({ data := s.toArray } : ByteArray) ++ { data := [99, 111, 108, 111, 114, 32, 61, 32].toArray }) ++ { data := t.toArray }) ++ { data := [59, 10].toArray }) = _
        rw [str_cat, str_cat, str_cat]; rfl)
      have HN : Hid (s ++ ([99, 111, 108, 111, 114] ++ [32, 61, 32]) ++ t ++ ([59] ++ [10]) ≠ []) := Lib.hid (by simp)
      clear hc hO ht hb1
      go_wp2_with fail
      rw [HE.out]
      obtain ⟨u, hu⟩ : ∃ u, s ++ ([99, 111, 108, 111, 114] ++ [32, 61, 32]) ++ t ++ ([59] ++ [10]) = u := ⟨_, rfl⟩
      rw [hu] at HP2 HN ⊢
      clear hu HE
      have hul : u.length ≤ 72 := by obtain ⟨_, _, _, _, _, h, _⟩ := HP2.out; omega
      refine (S_onceT (n := 2) _ HC2.out (by omega)).mono ?_
      rintro e w3 ⟨b, rfl, hc, hO⟩
      have HC3 := Lib.hid hc
      have HO3 := Lib.hid (HO2.out.then_ hO)
      have u0 : ¬ 9223372036854775807 < u.length + 8 := by omega
      clear hc hO
      cases b with
      | false =>
        go_wp2_with fail
        go_ret
        exact ⟨u, rfl, HP2.out.mono (by omega) (by omega) (by omega), HN.out, HC3.out, HO3.out⟩
      | true =>
        go_wp2_with fail
        refine (S_expr 1 (by omega) 1 _ HC3.out (by omega) (by omega)).mono ?_
        rintro e w4 ⟨v, rfl, hv, hc, hO⟩
        have hlv := hv.len
        have hb1 : bB 1 = 16 := rfl
        have HC4 := Lib.hid hc
        have HO4 := Lib.hid (HO3.out.then_ hO)
        have HV := Lib.hid hv
        have u1 : ¬ 9223372036854775807 < u.length + 8 + v.length := by omega
        have u2 : ¬ 9223372036854775807 < u.length + 8 + v.length + 1 := by omega
        clear hc hO hv hb1
        go_wp2_with fail
        go_ret
        refine ⟨u ++ ([97, 108, 112, 104, 97] ++ [32, 61, 32]) ++ v ++ ([59] ++ []), ?_, (PT.snoc HP2.out (x := [97, 108, 112, 104, 97]) (by decide) HV.out (by omega) (.inl rfl)).mono (by show 14 + 4 ≤ _; omega) (by omega) (by show 72 + 5 + 16 + 5 ≤ _; omega), by simp, HC4.out, HO4.out⟩
        show Ending.returned (Value.string (((({ data := u.toArray } : ByteArray) ++ { data := [97, 108, 112, 104, 97, 32, 61, 32].toArray }) ++ { data := v.toArray }) ++ { data := [59].toArray })) = _
        rw [str_cat, str_cat, str_cat]; rfl

end Go.Proofs.YtnlbojckobgjpaaGreatDoor
