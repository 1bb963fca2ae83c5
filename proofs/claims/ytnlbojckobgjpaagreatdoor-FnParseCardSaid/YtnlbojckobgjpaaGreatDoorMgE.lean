/- Several texts in one: LexP, LexQ. -/
import Derived.Test.YtnlbojckobgjpaaGreatDoorMgA
/- Plain: the tokens of a source. No program in sight. -/
set_option linter.unusedVariables false
set_option linter.unusedSimpArgs false
namespace Go.Proofs.YtnlbojckobgjpaaGreatDoor
abbrev ETok := Int × List UInt8 × Int × Int
def isDg (b : UInt8) : Bool := decide (48 ≤ b) && decide (b ≤ 57)
def isLt (b : UInt8) : Bool := decide (97 ≤ b) && decide (b ≤ 122)
def isSp (b : UInt8) : Bool := decide (b = 32) || decide (b = 10)
def symB : List UInt8 := [43, 45, 42, 47, 40, 41, 44, 61, 59]
def isSy (b : UInt8) : Bool := symB.contains b
/-- How many bytes of a kind stand first. -/
def spanN (f : UInt8 → Bool) : List UInt8 → Nat
  | [] => 0
  | b :: l => if f b then spanN f l + 1 else 0
def valN : List UInt8 → Nat → Nat
  | [], n => n
  | b :: l, n => valN l (10 * n + (b.toNat - 48))
def valD (l : List UInt8) : Nat := valN l 0
/-- The number token at the head: its length and its value. -/
def numTok (l : List UInt8) : Option (Nat × Nat) :=
  let d := spanN isDg l
  if 4 < d then none
  else if l[d]? = some 46 then
    let p := spanN isDg (l.drop (d + 1))
    if p < 1 ∨ 4 < p then none else some (d + 1 + p, valD (l.take d) * 256 + valD ((l.drop (d + 1)).take p) * 256 / 10 ^ p)
  else some (d, valD (l.take d) * 256)
/-- The token at the head: kind, length, value. -/
def scanTok (l : List UInt8) : Option (Int × Nat × Nat) :=
  match l with
  | [] => none
  | b :: _ =>
    if isDg b then (numTok l).map fun x => (1, x.1, x.2)
    else if isLt b then
      let n := spanN (fun c => isLt c || isDg c) l
      if 8 < n then none else some (2, n, 0)
    else if isSy b then some (3, 1, 0)
    else none
theorem spanN_le (f : UInt8 → Bool) (l : List UInt8) : spanN f l ≤ l.length := by
  induction l with
  | nil => exact Nat.le_refl _
  | cons b l ih => unfold spanN; split <;> simp <;> omega
theorem spanN_pos {f : UInt8 → Bool} {b : UInt8} {l : List UInt8} (h : f b = true) : 0 < spanN f (b :: l) := by unfold spanN; rw [if_pos h]; omega
theorem spanN_in {f : UInt8 → Bool} {l : List UInt8} {j : Nat} (h : j < spanN f l) : ∃ b, l[j]? = some b ∧ f b = true := by
  induction l generalizing j with
  | nil => simp [spanN] at h
  | cons b l ih =>
    unfold spanN at h
    by_cases hb : f b = true
    · rw [if_pos hb] at h
      match j with
      | 0 => exact ⟨b, rfl, hb⟩
      | j + 1 => exact ih (by omega)
    · rw [if_neg hb] at h; omega
theorem spanN_end {f : UInt8 → Bool} {l : List UInt8} {b : UInt8} (h : l[spanN f l]? = some b) : f b = false := by
  induction l with
  | nil => simp at h
  | cons c l ih =>
    unfold spanN at h
    by_cases hb : f c = true
    · rw [if_pos hb] at h; exact ih h
    · rw [if_neg hb] at h
      obtain rfl : c = b := by simpa using h
      simpa using hb
/-- The span is what the bytes say: a number of bytes of the kind, then none or another. -/
theorem spanN_eq {f : UInt8 → Bool} {l : List UInt8} {n : Nat} (h1 : ∀ j, j < n → ∃ b, l[j]? = some b ∧ f b = true) (h2 : ∀ b, l[n]? = some b → f b = false) : spanN f l = n := by
  rcases Nat.lt_trichotomy (spanN f l) n with h | h | h
  · obtain ⟨b, hb, hf⟩ := h1 _ h
    rw [spanN_end hb] at hf; cases hf
  · exact h
  · obtain ⟨b, hb, hf⟩ := spanN_in h
    rw [h2 b hb] at hf; cases hf
theorem numTok_len {l : List UInt8} {n v : Nat} (h : numTok l = some (n, v)) : n ≤ l.length ∧ spanN isDg l ≤ n := by
  unfold numTok at h
  dsimp only at h
  split at h
  · cases h
  · split at h
    · rename_i h46
      have hd : spanN isDg l < l.length := by
        rcases Nat.lt_or_ge (spanN isDg l) l.length with h' | h'
        · exact h'
        · rw [List.getElem?_eq_none h'] at h46; cases h46
      split at h
      · cases h
      · have := spanN_le isDg (l.drop (spanN isDg l + 1))
        simp only [Option.some.injEq, Prod.mk.injEq, List.length_drop] at h this
        omega
    · simp only [Option.some.injEq, Prod.mk.injEq] at h
      have := spanN_le isDg l
      omega
theorem scanTok_len {l : List UInt8} {k : Int} {n v : Nat} (h : scanTok l = some (k, n, v)) : 0 < n ∧ n ≤ l.length := by
  unfold scanTok at h
  match l, h with
  | b :: l, h =>
    simp only at h
    split at h
    · rename_i hb
      obtain ⟨⟨n', v'⟩, hx, he⟩ := Option.map_eq_some_iff.1 h
      have h1 := numTok_len hx
      have h2 := spanN_pos (l := l) hb
      simp only [Prod.mk.injEq] at he
      omega
    · split at h
      · rename_i hb
        split at h
        · cases h
        · simp only [Option.some.injEq, Prod.mk.injEq] at h
          have h1 := spanN_le (fun c => isLt c || isDg c) (b :: l)
          have h2 := spanN_pos (f := fun c => isLt c || isDg c) (b := b) (l := l) (by simp [hb])
          omega
      · split at h
        · simp only [Option.some.injEq, Prod.mk.injEq] at h
          simp only [List.length_cons]; omega
        · cases h
/-- The tokens from an offset on: the tokens in front of the end, or where it is malformed. -/
def tokz (src : List UInt8) : Nat → Nat → List ETok → Except Nat (List ETok)
  | 0, _, l => .ok l
  | n + 1, at_, l =>
    match src[at_]? with
    | none => .ok l
    | some b =>
      if isSp b then tokz src n (at_ + 1) l
      else match scanTok (src.drop at_) with
        | none => .error at_
        | some (k, m, v) => tokz src n (at_ + m) (l ++ [(k, (src.drop at_).take m, (v : Int), (at_ : Int))])
/-- What Tokenize answers. -/
def toksF (src : List UInt8) : Except Nat (List ETok) :=
  if 2000 < src.length then .error 0
  else (tokz src (src.length + 1) 0 []).map (· ++ [(0, [], 0, (src.length : Int))])
theorem tokz_space {src : List UInt8} {n a : Nat} {l : List ETok} {b : UInt8} (h : src[a]? = some b) (hb : isSp b = true) : tokz src (n + 1) a l = tokz src n (a + 1) l := by
  rw [tokz, h]; simp [hb]
theorem tokz_bad {src : List UInt8} {n a : Nat} {l : List ETok} {b : UInt8} (h : src[a]? = some b) (hb : isSp b = false) (hs : scanTok (src.drop a) = none) : tokz src (n + 1) a l = .error a := by
  rw [tokz, h]; simp [hb, hs]
theorem tokz_tok {src : List UInt8} {n a m v : Nat} {k : Int} {l : List ETok} {b : UInt8} (h : src[a]? = some b) (hb : isSp b = false) (hs : scanTok (src.drop a) = some (k, m, v)) : tokz src (n + 1) a l = tokz src n (a + m) (l ++ [(k, (src.drop a).take m, (v : Int), (a : Int))]) := by
  rw [tokz, h]; simp [hb, hs]
theorem tokz_end {src : List UInt8} {n a : Nat} {l : List ETok} (h : src.length ≤ a) : tokz src n a l = .ok l := by
  cases n with
  | zero => rfl
  | succ n => rw [tokz, List.getElem?_eq_none h]
/-- With fuel enough the fuel does not matter. -/
theorem tokz_fuel {src : List UInt8} : ∀ (n m a : Nat) (l : List ETok), src.length < a + n → src.length < a + m → tokz src n a l = tokz src m a l := by
  intro n
  induction n with
  | zero => intro m a l h1 h2; rw [tokz_end (by omega), tokz_end (by omega)]
  | succ n ih =>
    intro m a l h1 h2
    rcases Nat.lt_or_ge a src.length with h | h
    · match m with
      | 0 => omega
      | m + 1 =>
        have hb := List.getElem?_eq_getElem h
        cases hs : isSp src[a] with
        | true => rw [tokz_space hb hs, tokz_space hb hs]; exact ih _ _ _ (by omega) (by omega)
        | false =>
          cases hk : scanTok (src.drop a) with
          | none => rw [tokz_bad hb hs hk, tokz_bad hb hs hk]
          | some x =>
            obtain ⟨k, j, v⟩ := x
            have hj := scanTok_len hk
            rw [tokz_tok hb hs hk, tokz_tok hb hs hk]
            exact ih _ _ _ (by omega) (by omega)
    · rw [tokz_end h, tokz_end h]
end Go.Proofs.YtnlbojckobgjpaaGreatDoor

/- Plain: the digits of a number, one by one. No program in sight. -/
namespace Go.Proofs.YtnlbojckobgjpaaGreatDoor
theorem isDg_nat (b : UInt8) : isDg b = true ↔ 48 ≤ b.toNat ∧ b.toNat ≤ 57 := by simp [isDg, UInt8.le_iff_toNat_le]
theorem isLt_nat (b : UInt8) : isLt b = true ↔ 97 ≤ b.toNat ∧ b.toNat ≤ 122 := by simp [isLt, UInt8.le_iff_toNat_le]
theorem isDg_not {b : UInt8} (h : ¬ (48 ≤ b.toNat ∧ b.toNat ≤ 57)) : isDg b = false := by
  cases hd : isDg b with
  | false => rfl
  | true => exact absurd ((isDg_nat b).1 hd) h
theorem isLt_not {b : UInt8} (h : ¬ (97 ≤ b.toNat ∧ b.toNat ≤ 122)) : isLt b = false := by
  cases hd : isLt b with
  | false => rfl
  | true => exact absurd ((isLt_nat b).1 hd) h
theorem valN_snoc (l : List UInt8) (b : UInt8) (n : Nat) : valN (l ++ [b]) n = 10 * valN l n + (b.toNat - 48) := by
  induction l generalizing n with
  | nil => rfl
  | cons c l ih => exact ih _
theorem valD_succ {l : List UInt8} {k : Nat} {b : UInt8} (h : l[k]? = some b) : valD (l.take (k + 1)) = 10 * valD (l.take k) + (b.toNat - 48) := by
  have hk : k < l.length := (List.getElem?_eq_some_iff.1 h).1
  rw [List.take_add_one, h]
  exact valN_snoc _ _ _
/-- The first k bytes are digits. -/
def DG (l : List UInt8) (k : Nat) : Prop := ∀ j, j < k → ∃ b, l[j]? = some b ∧ isDg b = true
theorem DG.zero (l : List UInt8) : DG l 0 := fun j h => absurd h (by omega)
theorem DG.succ {l : List UInt8} {k : Nat} {b : UInt8} (h : DG l k) (hb : l[k]? = some b) (hd : 48 ≤ b.toNat ∧ b.toNat ≤ 57) : DG l (k + 1) := by
  intro j hj
  by_cases e : j = k
  · subst e; exact ⟨b, hb, (isDg_nat b).2 hd⟩
  · exact h j (by omega)
theorem DG.le {l : List UInt8} {k : Nat} (h : DG l k) : k ≤ l.length := by
  rcases Nat.lt_or_ge l.length k with h' | h'
  · obtain ⟨b, hb, _⟩ := h l.length h'
    simp at hb
  · exact h'
theorem DG.val {l : List UInt8} {k : Nat} (h : DG l k) : valD (l.take k) < 10 ^ k := by
  induction k with
  | zero => simp [valD, valN]
  | succ k ih =>
    obtain ⟨b, hb, hd⟩ := h k (by omega)
    have h1 := ih (fun j hj => h j (by omega))
    have h2 := (isDg_nat b).1 hd
    rw [valD_succ hb, Nat.pow_succ]
    omega
theorem DG.span {l : List UInt8} {k : Nat} (h : DG l k) : k ≤ spanN isDg l := by
  rcases Nat.lt_or_ge (spanN isDg l) k with h' | h'
  · obtain ⟨b, hb, hd⟩ := h _ h'
    rw [spanN_end hb] at hd; cases hd
  · exact h'
theorem DG.span_end {l : List UInt8} {k : Nat} (h : DG l k) (he : l[k]? = none) : spanN isDg l = k := spanN_eq h (fun b hb => by rw [he] at hb; cases hb)
theorem DG.span_not {l : List UInt8} {k : Nat} {b : UInt8} (h : DG l k) (hb : l[k]? = some b) (hd : ¬ (48 ≤ b.toNat ∧ b.toNat ≤ 57)) : spanN isDg l = k := spanN_eq h (fun c hc => by rw [hb] at hc; injection hc with hc; subst hc; exact isDg_not hd)
theorem numTok_big {l : List UInt8} (h : 4 < spanN isDg l) : numTok l = none := by unfold numTok; simp [h]
theorem numTok_int {l : List UInt8} {d : Nat} (hd : spanN isDg l = d) (h : ¬ 4 < d) (h46 : l[d]? ≠ some 46) : numTok l = some (d, valD (l.take d) * 256) := by subst hd; unfold numTok; simp [h, h46]
theorem numTok_bad {l : List UInt8} {d p : Nat} (hd : spanN isDg l = d) (h46 : l[d]? = some 46) (hp : spanN isDg (l.drop (d + 1)) = p) (h2 : p < 1 ∨ 4 < p) : numTok l = none := by
  subst hd; subst hp; unfold numTok
  simp only [h46, h2, if_true, ite_self]
theorem numTok_dot {l : List UInt8} {d p : Nat} (hd : spanN isDg l = d) (h : ¬ 4 < d) (h46 : l[d]? = some 46) (hp : spanN isDg (l.drop (d + 1)) = p) (h2 : ¬ (p < 1 ∨ 4 < p)) : numTok l = some (d + 1 + p, valD (l.take d) * 256 + valD ((l.drop (d + 1)).take p) * 256 / 10 ^ p) := by
  subst hd; subst hp; unfold numTok
  dsimp only
  rw [if_neg h, if_pos h46, if_neg h2]
end Go.Proofs.YtnlbojckobgjpaaGreatDoor
