/- Decimal texts, in plain Lean: an integer of at most a milliard and its digits, and back. -/
import Derived.Lib.ItoaLen
import Derived.Lib.AtoiTie
import Derived.Lib.AtoiBound
namespace Go.Proofs.YtnlbojckobgjpaaDoor
open Go.Lib
theorem digitVal_of {d : Nat} (h : d < 10) : digitVal (UInt8.ofNat (48 + d)) = some d :=
  (by decide : ∀ d : Fin 10, digitVal (UInt8.ofNat (48 + d.val)) = some d.val) ⟨d, h⟩
theorem decFrom_append : ∀ (l m : List UInt8) (acc : Nat), decFrom acc (l ++ m) = (decFrom acc l).bind fun n => decFrom n m
  | [], m, acc => rfl
  | b :: r, m, acc => by
    simp only [List.cons_append, decFrom]
    cases digitVal b with
    | none => rfl
    | some d => exact decFrom_append r m _
theorem decFrom_decDigits (u : Nat) : decFrom 0 (decDigits u) = some u := by
  induction u using Nat.strongRecOn with
  | _ u ih =>
    rw [decDigits]
    by_cases h : u < 10
    · rw [dif_pos h]; simp only [decFrom, digitVal_of h, Nat.zero_mul, Nat.zero_add]
    · rw [dif_neg h, decFrom_append, ih (u / 10) (by omega)]
      simp only [Option.bind_some, decFrom, digitVal_of (show u % 10 < 10 by omega), Option.some.injEq]
      omega
theorem decDigits_ne (u : Nat) : decDigits u ≠ [] := by
  rw [decDigits]; split <;> simp
theorem decNat_decDigits (u : Nat) : decNat (decDigits u) = some u := by
  have := decDigits_ne u
  unfold decNat
  rw [if_neg (by simpa using this)]
  exact decFrom_decDigits u
theorem decDigits_digit {u : Nat} {b : UInt8} (h : b ∈ decDigits u) : 48 ≤ b.toNat ∧ b.toNat ≤ 57 := by
  obtain ⟨k, hk, rfl⟩ := List.getElem_of_mem h
  obtain ⟨d, hd⟩ := digit_of_decFrom _ 0 u (decFrom_decDigits u) k _ (List.getElem?_eq_getElem hk)
  have := digitVal_eq hd
  exact ⟨this.1, this.2.1⟩
theorem atoi_itoa (n : Int) : atoi (itoa n) = some n := by
  unfold itoa
  by_cases h : n < 0
  · rw [if_pos h]
    simp only [atoi, beq_self_eq_true, if_true, decNat_decDigits, Option.map_some, Option.some.injEq]
    omega
  · rw [if_neg h]
    have hd := decNat_decDigits n.toNat
    have hb : ∀ b ∈ decDigits n.toNat, 48 ≤ b.toNat := fun b hb => (decDigits_digit hb).1
    cases hl : decDigits n.toNat with
    | nil => exact absurd hl (decDigits_ne _)
    | cons b r =>
      rw [hl] at hd hb
      have h1 := hb b (by simp)
      have n45 : (b == 45) = false := by
        rw [beq_eq_false_iff_ne]; rintro rfl; exact absurd h1 (by decide)
      have n43 : (b == 43) = false := by
        rw [beq_eq_false_iff_ne]; rintro rfl; exact absurd h1 (by decide)
      simp only [atoi, n45, n43, hd, Option.map_some]
      simp only [Bool.false_eq_true, if_false, Option.some.injEq]
      omega
def inNum (n : Int) : Prop := -1000000000 ≤ n ∧ n ≤ 1000000000
instance (n : Int) : Decidable (inNum n) := inferInstanceAs (Decidable (_ ∧ _))
/-- The text of a number; none at all beyond a milliard. -/
def fmtI (n : Int) : List UInt8 := if inNum n then itoa n else []
/-- The number whose text this is. -/
def parseI (l : List UInt8) : Option Int := (atoi l).filter fun v => decide (fmtI v = l)
theorem fmtI_in {n : Int} (h : inNum n) : fmtI n = itoa n := if_pos h
theorem fmtI_out {n : Int} (h : ¬ inNum n) : fmtI n = [] := if_neg h
theorem itoa_ne (n : Int) : itoa n ≠ [] := by
  unfold itoa; split
  · simp
  · exact decDigits_ne _
theorem fmtI_ne {n : Int} (h : inNum n) : fmtI n ≠ [] := by rw [fmtI_in h]; exact itoa_ne n
theorem fmtI_nil_iff (n : Int) : fmtI n = [] ↔ ¬ inNum n :=
  ⟨fun h hn => fmtI_ne hn h, fmtI_out⟩
theorem parseI_some {l : List UInt8} {v : Int} (h : parseI l = some v) : inNum v ∧ l = itoa v ∧ fmtI v = l := by
  unfold parseI at h
  cases ha : atoi l with
  | none => rw [ha] at h; simp at h
  | some u =>
    rw [ha] at h
    simp only [Option.filter_some, decide_eq_true_eq] at h
    split at h
    · rename_i hu
      obtain rfl := Option.some.inj h
      have hne : l ≠ [] := by rintro rfl; simp [atoi] at ha
      have hn : inNum u := by
        by_cases hn : inNum u
        · exact hn
        · rw [fmtI_out hn] at hu; exact absurd hu.symm hne
      exact ⟨hn, by rw [← hu, fmtI_in hn], hu⟩
    · cases h
theorem parseI_of {l : List UInt8} {v : Int} (hl : l ≠ []) (h : fmtI v = l) : parseI l = some v := by
  have hn : inNum v := by
    by_cases hn : inNum v
    · exact hn
    · rw [fmtI_out hn] at h; exact absurd h.symm hl
  have e : l = itoa v := by rw [← h, fmtI_in hn]
  unfold parseI
  rw [show atoi l = some v from by rw [e]; exact atoi_itoa v]
  simp [Option.filter_some, h]
theorem parseI_fmtI {n : Int} (h : inNum n) : parseI (fmtI n) = some n := parseI_of (fmtI_ne h) rfl
theorem parseI_nil : parseI [] = none := rfl
theorem nDigits_le : ∀ (k u : Nat), u < 10 ^ (k + 1) → nDigits u ≤ k + 1
  | 0, u, h => by rw [nDigits_small (by simpa using h)]; decide
  | k + 1, u, h => by
    by_cases h1 : u < 10
    · rw [nDigits_small h1]; omega
    · rw [nDigits_big h1]
      have := nDigits_le k (u / 10) (Nat.div_lt_of_lt_mul (by rw [Nat.pow_succ, Nat.mul_comm] at h; exact h))
      omega
theorem fmtI_len (n : Int) : (fmtI n).length ≤ 11 := by
  unfold fmtI
  split
  · rename_i h
    obtain ⟨h1, h2⟩ := h
    unfold itoa
    split
    · rw [List.length_cons, decDigits_length]
      have := nDigits_le 9 n.natAbs (by omega)
      omega
    · rw [decDigits_length]
      have := nDigits_le 9 n.toNat (by omega)
      omega
  · simp
theorem parseI_len {l : List UInt8} {v : Int} (h : parseI l = some v) : l.length ≤ 11 := by
  have := fmtI_len v
  rw [(parseI_some h).2.2] at this
  exact this
theorem itoa_at {n : Int} {k : Nat} {b : UInt8} (h : (itoa n)[k]? = some b) : (k = 0 ∧ n < 0 ∧ b = 45) ∨ (48 ≤ b.toNat ∧ b.toNat ≤ 57) := by
  unfold itoa at h
  split at h
  · rename_i hn
    cases k with
    | zero => simp at h; exact .inl ⟨rfl, hn, h.symm⟩
    | succ k =>
      rw [List.getElem?_cons_succ] at h
      exact .inr (decDigits_digit (List.mem_of_getElem? h))
  · exact .inr (decDigits_digit (List.mem_of_getElem? h))
theorem itoa_mem {n : Int} {b : UInt8} (h : b ∈ itoa n) : b = 45 ∨ (48 ≤ b.toNat ∧ b.toNat ≤ 57) := by
  obtain ⟨k, hk, rfl⟩ := List.getElem_of_mem h
  rcases itoa_at (List.getElem?_eq_getElem hk) with h | h
  · exact .inl h.2.2
  · exact .inr h
/-- A byte that no numeral has at its place. -/
theorem parseI_bad {l : List UInt8} {k : Nat} {b : UInt8} (hk : l[k]? = some b) (hb : ¬ (48 ≤ b.toNat ∧ b.toNat ≤ 57)) (h0 : k = 0 → b ≠ 45) : parseI l = none := by
  cases h : parseI l with
  | none => rfl
  | some v =>
    obtain ⟨_, e, _⟩ := parseI_some h
    rw [e] at hk
    rcases itoa_at hk with ⟨rfl, _, e⟩ | h
    · exact absurd e (h0 rfl)
    · exact absurd h hb
theorem parseI_long {l : List UInt8} (h : 12 < l.length) : parseI l = none := by
  cases hp : parseI l with
  | none => rfl
  | some v => have := parseI_len hp; omega
/-- The digits behind the sign spell n: the text is that of n, or of no number. -/
theorem parseI_pos {l : List UInt8} {n : Nat} (h : decFrom 0 l = some n) (hne : fmtI (n : Int) ≠ l) : parseI l = none := by
  cases hp : parseI l with
  | none => rfl
  | some v =>
    obtain ⟨_, e, e'⟩ := parseI_some hp
    exfalso
    unfold itoa at e
    split at e
    · rw [e] at h; simp [decFrom, digitVal] at h
    · rename_i hv
      rw [e, decFrom_decDigits] at h
      have : (n : Int) = v := by have := Option.some.inj h; omega
      rw [this] at hne
      exact hne e'
theorem parseI_neg {l : List UInt8} {n : Nat} (h : decFrom 0 l = some n) (hne : fmtI (-(n : Int)) ≠ 45 :: l) : parseI (45 :: l) = none := by
  cases hp : parseI (45 :: l) with
  | none => rfl
  | some v =>
    obtain ⟨_, e, e'⟩ := parseI_some hp
    exfalso
    unfold itoa at e
    split at e
    · rename_i hv
      obtain rfl := (List.cons.inj e).2
      rw [decFrom_decDigits] at h
      have : -(n : Int) = v := by have := Option.some.inj h; omega
      rw [this] at hne
      exact hne e'
    · have := (decDigits_digit (u := v.toNat) (b := 45) (by rw [← e]; simp)).1
      exact absurd this (by decide)
/-- What strconv.Atoi gives, held against the text again. -/
theorem parseI_atoiAll {l : List UInt8} : parseI l = match atoiAll l with | .ok v => if fmtI v = l ∧ l ≠ [] then some v else none | _ => none := by
  by_cases hl : l.length ≤ 18
  · rw [atoiAll_short l hl]
    unfold parseI
    cases ha : atoi l with
    | none => rfl
    | some v =>
      have hne : l ≠ [] := by rintro rfl; simp [atoi] at ha
      simp [NumEnd.ofOption, Option.filter_some, hne]
  · rw [parseI_long (by omega)]
    have hbad : ∀ v, fmtI v ≠ l := fun v e => by have := fmtI_len v; rw [e] at this; omega
    cases atoiAll l <;> simp [hbad]
end Go.Proofs.YtnlbojckobgjpaaDoor
