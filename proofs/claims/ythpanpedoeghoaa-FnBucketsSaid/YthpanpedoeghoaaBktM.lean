/- FnBuckets: the callees' contracts at the films of the law. -/
import Derived.Test.YthpanpedoeghoaaBktC
set_option linter.unusedVariables false
set_option linter.unusedSimpArgs false
set_option linter.unnecessarySimpa false
namespace Go.Proofs.Ythpanpedoeghoaa
open Go.RowKit
set_option linter.unusedVariables false
theorem bks_small {a b s : Nat} (ha : 2 ≤ a ∧ a ≤ 5) (hb : 2 ≤ b ∧ b ≤ 5) (hs : 1 ≤ s) : nb a s * nb b s ≤ 25 := by
  have h1 : nb a s ≤ 5 := by
    rcases Nat.lt_or_ge 5 (nb a s) with h | h
    · have := (lt_nb (n := a) hs).1 h
      have : 1 * 5 ≤ s * 5 := Nat.mul_le_mul_right _ hs
      omega
    · exact h
  have h2 : nb b s ≤ 5 := by
    rcases Nat.lt_or_ge 5 (nb b s) with h | h
    · have := (lt_nb (n := b) hs).1 h
      have : 1 * 5 ≤ s * 5 := Nat.mul_le_mul_right _ hs
      omega
    · exact h
  exact Nat.mul_le_mul h1 h2
theorem I_newK {a b N : Nat} {x y u v : Int} {e : Bool} (w : World) (hN : a * b = N) (hN2 : N ≤ 25) (s : Nat) (hv : validCam a b x y u v = true) :
    Calls Try.prog 7 #[vCamera a b x y e u v] w fun r w' => ∃ (P1 P2 : Option Addr) (j1 j2 : Nat), r = .returned (.tuple #[vFilm a b (.slice P1 N j1) (.slice P2 N j2), .bool true]) ∧ RS w' 1 P1 N j1 (ints (pixZ a b)) ∧ RS w' 1 P2 N j2 (bools (donK a b s 0)) ∧ Below w.heap.size w w' := by
  have := I_NewFilm (a := a) (b := b) (c := x) (d := y) (e := e) (f := u) (g := v) (n := N) w (fun _ => ⟨by rw [← hN]; exact (Int.natCast_mul _ _).symm, by omega⟩)
  unfold NewFilmR at this
  rw [hv] at this
  simp only [if_true] at this
  refine this.mono ?_
  rintro r w' ⟨P1, j1, P2, j2, rfl, u1, u2, _, _, _, hb⟩
  refine ⟨P1, P2, j1, j2, rfl, ?_, ?_, hb⟩
  · unfold pixZ; rw [hN]; exact u1.rs
  · rw [donK_zero, hN]; exact u2.rs
theorem I_missK {a b N m k : Nat} {s : Nat} {A B C : Option Addr} {c d f : Nat} {l : List EBucket} {r : List Int} (w : World) (hN : a * b = N) (hl : l.length = m) (hm : m ≤ 1000) (hr : missF a b (pixZ a b) (donK a b s k) l = r) (n : Nat) (hn : r.length = n)
    (h : RS w 1 A N c (ints (pixZ a b))) (h2 : RS w 1 B N d (bools (donK a b s k))) (h3 : RS w 4 C m f (rBucket l)) :
    Calls Try.prog 9 #[vFilm a b (.slice A N c) (.slice B N d), .slice C m f] w fun e w' => ∃ (Q : Option Addr) (j : Nat), e = .returned (.slice Q n j) ∧ Below w.heap.size w w' := by
  subst hl
  have := I_Missing (W := a) (H := b) (s := pixZ a b) (t := donK a b s k) (l := l) w (by omega) (by rw [pixZ_len, hN]; exact h) (by rw [donK_len, hN]; exact h2) h3
  rw [hr, pixZ_len, donK_len, hN, hn] at this
  refine this.mono ?_
  rintro e w' ⟨Q, j, rfl, _, _, hb⟩
  exact ⟨Q, j, rfl, hb⟩
theorem I_putK {a b N k s x y p q m : Nat} {A B C : Option Addr} {c d f : Nat} (w : World) (hN : a * b = N) (hN2 : N ≤ 25) (hm : p * q = m)
    (h1 : putOk a b (pixZ a b) (donK a b s k) x y p q (List.replicate (p * q) 0) = true) (h2 : putS a b (pixZ a b) (donK a b s k) x y p q (List.replicate (p * q) 0) = pixZ a b) (h3 : putT a b (pixZ a b) (donK a b s k) x y p q (List.replicate (p * q) 0) = donK a b s (k + 1))
    (hA : RS w 1 A N c (ints (pixZ a b))) (hB : RS w 1 B N d (bools (donK a b s k))) (hC : RS w 1 C m f (ints (List.replicate m 0))) :
    Calls Try.prog 10 #[vFilm a b (.slice A N c) (.slice B N d), vBucket x y p q, .slice C m f] w fun e w' => ∃ (Q1 Q2 : Option Addr) (j1 j2 : Nat), e = .returned (.tuple #[vFilm a b (.slice Q1 N j1) (.slice Q2 N j2), .bool true]) ∧ RS w' 1 Q1 N j1 (ints (pixZ a b)) ∧ RS w' 1 Q2 N j2 (bools (donK a b s (k + 1))) ∧ (∀ ad, Q1 = some ad → w.heap.size ≤ ad.block) ∧ (∀ ad, Q2 = some ad → w.heap.size ≤ ad.block) ∧ Below w.heap.size w w' := by
  subst hm
  have := I_PutBucket (W := a) (H := b) (x := x) (y := y) (p := p) (q := q) (s := pixZ a b) (t := donK a b s k) (l := List.replicate (p * q) 0) (C := C) (f := f) w (by rw [pixZ_len]; omega) (by rw [donK_len]; omega) (by rw [pixZ_len, hN]; exact hA) (by rw [donK_len, hN]; exact hB) (by rw [List.length_replicate]; exact hC)
  rw [h1, h2, h3, pixZ_len, donK_len, hN, List.length_replicate] at this
  refine this.mono ?_
  rintro e w' ⟨Q1, j1, Q2, j2, rfl, u1, u2, k1, k2, _, hb⟩
  exact ⟨Q1, Q2, j1, j2, rfl, u1.rs, u2.rs, fun ad h => k1 _ (by subst h; simp [gOf]), fun ad h => k2 _ (by subst h; simp [gOf]), hb⟩
theorem I_fullK {a b N K : Nat} {s : Nat} {A B : Option Addr} {c d : Nat} (w : World) (hN : a * b = N) (h : completeF a b (pixZ a b) (donK a b s K) = true) (hA : RS w 1 A N c (ints (pixZ a b))) (hB : RS w 1 B N d (bools (donK a b s K))) :
    Calls Try.prog 11 #[vFilm a b (.slice A N c) (.slice B N d)] w fun e w' => e = .returned (.bool true) ∧ Below w.heap.size w w' := by
  have := I_IsComplete (W := a) (H := b) (s := pixZ a b) (t := donK a b s K) w (by rw [pixZ_len, hN]; exact hA) (by rw [donK_len, hN]; exact hB)
  rw [h, pixZ_len, donK_len, hN] at this
  exact this
end Go.Proofs.Ythpanpedoeghoaa
