/- Plain: the digits of a number, one by one. No program in sight. -/
import Derived.Test.YtnlbojckobgjpaaDoorLexP
namespace Go.Proofs.YtnlbojckobgjpaaDoor
set_option linter.unusedVariables false
theorem isDg_nat (b : UInt8) : isDg b = true ↔ 48 ≤ b.toNat ∧ b.toNat ≤ 57 := by simp [isDg, UInt8.le_iff_toNat_le]
theorem isLt_nat (b : UInt8) : isLt b = true ↔ 97 ≤ b.toNat ∧ b.toNat ≤ 122 := by simp [isLt, UInt8.le_iff_toNat_le]
theorem isDg_not {b : UInt8} (h : ¬ (48 ≤ b.toNat ∧ b.toNat ≤ 57)) : isDg b = false := by
  cases hd : isDg b with
  | false => rfl
  | true => exact absurd ((isDg_nat b).1 hd) h
theorem isLt_not {b : UInt8} (h : ¬ (97 ≤ b.toNat ∧ b.toNat ≤ 122)) : isLt b = false := by
  cases hd : isLt b with
  | false => rfl
  | true => exact absurd ((isLt_nat b).1 hd) h
theorem valN_snoc (l : List UInt8) (b : UInt8) (n : Nat) : valN (l ++ [b]) n = 10 * valN l n + (b.toNat - 48) := by
  induction l generalizing n with
  | nil => rfl
  | cons c l ih => exact ih _
theorem valD_succ {l : List UInt8} {k : Nat} {b : UInt8} (h : l[k]? = some b) : valD (l.take (k + 1)) = 10 * valD (l.take k) + (b.toNat - 48) := by
  have hk : k < l.length := (List.getElem?_eq_some_iff.1 h).1
  rw [List.take_add_one, h]
  exact valN_snoc _ _ _
/-- The first k bytes are digits. -/
def DG (l : List UInt8) (k : Nat) : Prop := ∀ j, j < k → ∃ b, l[j]? = some b ∧ isDg b = true
theorem DG.zero (l : List UInt8) : DG l 0 := fun j h => absurd h (by omega)
theorem DG.succ {l : List UInt8} {k : Nat} {b : UInt8} (h : DG l k) (hb : l[k]? = some b) (hd : 48 ≤ b.toNat ∧ b.toNat ≤ 57) : DG l (k + 1) := by
  intro j hj
  by_cases e : j = k
  · subst e; exact ⟨b, hb, (isDg_nat b).2 hd⟩
  · exact h j (by omega)
theorem DG.le {l : List UInt8} {k : Nat} (h : DG l k) : k ≤ l.length := by
  rcases Nat.lt_or_ge l.length k with h' | h'
  · obtain ⟨b, hb, _⟩ := h l.length h'
    simp at hb
  · exact h'
theorem DG.val {l : List UInt8} {k : Nat} (h : DG l k) : valD (l.take k) < 10 ^ k := by
  induction k with
  | zero => simp [valD, valN]
  | succ k ih =>
    obtain ⟨b, hb, hd⟩ := h k (by omega)
    have h1 := ih (fun j hj => h j (by omega))
    have h2 := (isDg_nat b).1 hd
    rw [valD_succ hb, Nat.pow_succ]
    omega
theorem DG.span {l : List UInt8} {k : Nat} (h : DG l k) : k ≤ spanN isDg l := by
  rcases Nat.lt_or_ge (spanN isDg l) k with h' | h'
  · obtain ⟨b, hb, hd⟩ := h _ h'
    rw [spanN_end hb] at hd; cases hd
  · exact h'
theorem DG.span_end {l : List UInt8} {k : Nat} (h : DG l k) (he : l[k]? = none) : spanN isDg l = k := spanN_eq h (fun b hb => by rw [he] at hb; cases hb)
theorem DG.span_not {l : List UInt8} {k : Nat} {b : UInt8} (h : DG l k) (hb : l[k]? = some b) (hd : ¬ (48 ≤ b.toNat ∧ b.toNat ≤ 57)) : spanN isDg l = k := spanN_eq h (fun c hc => by rw [hb] at hc; injection hc with hc; subst hc; exact isDg_not hd)
theorem numTok_big {l : List UInt8} (h : 4 < spanN isDg l) : numTok l = none := by unfold numTok; simp [h]
theorem numTok_int {l : List UInt8} {d : Nat} (hd : spanN isDg l = d) (h : ¬ 4 < d) (h46 : l[d]? ≠ some 46) : numTok l = some (d, valD (l.take d) * 256) := by subst hd; unfold numTok; simp [h, h46]
theorem numTok_bad {l : List UInt8} {d p : Nat} (hd : spanN isDg l = d) (h46 : l[d]? = some 46) (hp : spanN isDg (l.drop (d + 1)) = p) (h2 : p < 1 ∨ 4 < p) : numTok l = none := by
  subst hd; subst hp; unfold numTok
  simp only [h46, h2, if_true, ite_self]
theorem numTok_dot {l : List UInt8} {d p : Nat} (hd : spanN isDg l = d) (h : ¬ 4 < d) (h46 : l[d]? = some 46) (hp : spanN isDg (l.drop (d + 1)) = p) (h2 : ¬ (p < 1 ∨ 4 < p)) : numTok l = some (d + 1 + p, valD (l.take d) * 256 + valD ((l.drop (d + 1)).take p) * 256 / 10 ^ p) := by
  subst hd; subst hp; unfold numTok
  dsimp only
  rw [if_neg h, if_pos h46, if_neg h2]
end Go.Proofs.YtnlbojckobgjpaaDoor
