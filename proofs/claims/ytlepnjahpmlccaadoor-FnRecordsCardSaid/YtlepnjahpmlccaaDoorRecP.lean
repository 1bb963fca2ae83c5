/- A record's line taken apart, in plain Lean. -/
import Derived.Test.YtlepnjahpmlccaaDoorPInts
namespace Go.Proofs.YtlepnjahpmlccaaDoor
open Go.RowKit Go.Lib
set_option linter.unusedVariables false
theorem fmtI_byte {n : Int} {x : UInt8} (h : x ∈ fmtI n) : x = 45 ∨ (48 ≤ x.toNat ∧ x.toNat ≤ 57) := by
  by_cases hn : inNum n
  · rw [fmtI_in hn] at h; exact itoa_mem h
  · rw [fmtI_out hn] at h; cases h
theorem fmtI_ne_byte {n : Int} {b : UInt8} (hb : b ≠ 45) (hb2 : ¬ (48 ≤ b.toNat ∧ b.toNat ≤ 57)) : ∀ x ∈ fmtI n, x ≠ b := by
  intro x hx e
  subst e
  rcases fmtI_byte hx with h | h
  · exact hb h
  · exact hb2 h
theorem joinTail_cons (x : List UInt8) (r : List (List UInt8)) : joinTail [44] (x :: r) = 44 :: (x ++ joinTail [44] r) := by simp [joinTail]
theorem split_join : ∀ (r : List (List UInt8)) (u : List UInt8), (∀ x ∈ u, x ≠ 44) → (∀ p ∈ r, ∀ x ∈ p, x ≠ 44) → splitB 44 (u ++ joinTail [44] r) = u :: r
  | [], u, hu, _ => by rw [show joinTail [44] [] = [] from rfl, List.append_nil]; exact splitB_none hu
  | x :: r, u, hu, hr => by
    rw [joinTail_cons, splitB_cut _ hu, split_join r x (hr x (by simp)) (fun p hp => hr p (by simp [hp]))]
theorem fmtL_split {l : List Int} (h : 0 < l.length) : splitB 44 (fmtL l) = l.map fmtI := by
  cases l with
  | nil => cases h
  | cons a t =>
    unfold fmtL
    rw [List.map_cons, join_cons]
    exact split_join _ _ (fmtI_ne_byte (by decide) (by decide)) (fun p hp => by
      obtain ⟨n, _, rfl⟩ := List.mem_map.1 hp
      exact fmtI_ne_byte (by decide) (by decide))
theorem joinTail_byte {r : List (List UInt8)} {x : UInt8} (h : x ∈ joinTail [44] r) : x = 44 ∨ ∃ p ∈ r, x ∈ p := by
  unfold joinTail at h
  rw [List.mem_flatten] at h
  obtain ⟨q, hq, hx⟩ := h
  obtain ⟨p, hp, rfl⟩ := List.mem_map.1 hq
  rcases List.mem_append.1 hx with hx | hx
  · simp at hx; exact .inl hx
  · exact .inr ⟨p, hp, hx⟩
theorem fmtL_ne_byte {l : List Int} {b : UInt8} (hb : b ≠ 45) (hb2 : ¬ (48 ≤ b.toNat ∧ b.toNat ≤ 57)) (hb3 : b ≠ 44) : ∀ x ∈ fmtL l, x ≠ b := by
  intro x hx e
  subst e
  cases l with
  | nil => cases hx
  | cons a t =>
    unfold fmtL at hx
    rw [List.map_cons, join_cons] at hx
    rcases List.mem_append.1 hx with hx | hx
    · exact fmtI_ne_byte hb hb2 _ hx rfl
    · rcases joinTail_byte hx with h | ⟨p, hp, hx⟩
      · exact hb3 h
      · obtain ⟨n, _, rfl⟩ := List.mem_map.1 hp
        exact fmtI_ne_byte hb hb2 _ hx rfl
theorem validR_all {i : Int} {l : List Int} (h : validR i l = true) : (0 ≤ i ∧ i ≤ 1000000000) ∧ 0 < l.length ∧ l.length ≤ 144 ∧ ∀ n ∈ l, 0 ≤ n ∧ n ≤ 256 := by
  obtain ⟨h1, h2, h3⟩ := validR_true h
  have a := inB_true h1
  have b := inB_true h2
  refine ⟨a, by omega, by omega, fun n hn => ?_⟩
  unfold allIn at h3
  rw [List.all_eq_true] at h3
  exact inB_true (h3 n hn)
theorem fmtL_parse {i : Int} {l : List Int} (h : validR i l = true) : parseL (fmtL l) = some l := by
  obtain ⟨_, h1, _, h2⟩ := validR_all h
  unfold parseL
  rw [if_neg ?_, fmtL_split h1]
  · exact parseTo_map (fun n hn => by have := h2 n hn; unfold inNum; omega)
  · intro e
    cases l with
    | nil => cases h1
    | cons a t =>
      have ha := h2 a (by simp)
      have h0 : fmtI a ≠ [] := fmtI_ne (by unfold inNum; omega)
      unfold fmtL at e
      rw [List.map_cons, join_cons] at e
      cases hf : fmtI a with
      | nil => exact h0 hf
      | cons b r =>
        rw [hf] at e
        have hb : b = 45 := by simpa using (List.cons.inj e).1
        subst hb
        have hfa : fmtI a = itoa a := fmtI_in (by unfold inNum; omega)
        rw [hfa] at hf
        unfold itoa at hf
        rw [if_neg (by omega)] at hf
        have := (decDigits_digit (u := a.toNat) (b := 45) (by rw [hf]; simp)).1
        exact absurd this (by decide)
/-- A record's line without its end. -/
def bodyR (i : Int) (l : List Int) : List UInt8 := [116, 105, 108, 101] ++ 32 :: (fmtI i ++ 32 :: (fmtI (hashF (i :: l)) ++ 32 :: fmtL l))
theorem fmtR_body {i : Int} {l : List Int} (h : validR i l = true) : fmtR i l = bodyR i l ++ [10] := by
  rw [fmtR_yes h]; unfold bodyR; simp
theorem body_words (i : Int) (l : List Int) : splitB 32 (bodyR i l) = [[116, 105, 108, 101], fmtI i, fmtI (hashF (i :: l)), fmtL l] := by
  unfold bodyR
  rw [splitB_cut _ (by decide), splitB_cut _ (fmtI_ne_byte (by decide) (by decide)), splitB_cut _ (fmtI_ne_byte (by decide) (by decide)), splitB_none (fmtL_ne_byte (by decide) (by decide) (by decide))]
theorem body_ne10 (i : Int) (l : List Int) : ∀ x ∈ bodyR i l, x ≠ 10 := by
  intro x hx
  unfold bodyR at hx
  rcases List.mem_append.1 hx with hx | hx
  · exact (by decide : ∀ x ∈ ([116, 105, 108, 101] : List UInt8), x ≠ 10) x hx
  · rcases List.mem_cons.1 hx with rfl | hx
    · decide
    · rcases List.mem_append.1 hx with hx | hx
      · exact fmtI_ne_byte (by decide) (by decide) x hx
      · rcases List.mem_cons.1 hx with rfl | hx
        · decide
        · rcases List.mem_append.1 hx with hx | hx
          · exact fmtI_ne_byte (by decide) (by decide) x hx
          · rcases List.mem_cons.1 hx with rfl | hx
            · decide
            · exact fmtL_ne_byte (by decide) (by decide) (by decide) x hx
theorem fmtR_lines {i : Int} {l : List Int} (h : validR i l = true) : splitB 10 (fmtR i l) = [bodyR i l, []] := by
  rw [fmtR_body h, show bodyR i l ++ [10] = bodyR i l ++ 10 :: [] from rfl, splitB_cut _ (body_ne10 i l)]; rfl
theorem fmtR_trim {i : Int} {l : List Int} (h : validR i l = true) : trimSuffix (fmtR i l) [10] = bodyR i l := by
  rw [fmtR_body h]
  unfold trimSuffix hasSuffix
  rw [if_pos (by simp)]
  simp
theorem fmtR_ne {i : Int} {l : List Int} (h : validR i l = true) : fmtR i l ≠ [] := by rw [fmtR_body h]; simp
theorem fmtR_inj {i i' : Int} {l l' : List Int} (h : validR i l = true) (h' : validR i' l' = true) (e : fmtR i l = fmtR i' l') : i = i' ∧ l = l' := by
  have hb : bodyR i l = bodyR i' l' := by
    rw [fmtR_body h, fmtR_body h'] at e
    exact List.append_cancel_right e
  have hw := body_words i l
  rw [hb, body_words] at hw
  simp only [List.cons.injEq, and_true, true_and] at hw
  obtain ⟨e1, _, e2⟩ := hw
  have a1 := (validR_all h).1
  have a2 := (validR_all h').1
  have p1 := parseI_fmtI (n := i) (by unfold inNum; omega)
  have p2 := parseI_fmtI (n := i') (by unfold inNum; omega)
  rw [e1, p1] at p2
  have q1 := fmtL_parse h
  have q2 := fmtL_parse h'
  rw [e2, q1] at q2
  exact ⟨Option.some.inj p2, Option.some.inj q2⟩
open Classical in
/-- The record whose line this is. -/
noncomputable def parseR (t : List UInt8) : Option (Int × List Int) := if h : ∃ p : Int × List Int, validR p.1 p.2 = true ∧ fmtR p.1 p.2 = t then some h.choose else none
theorem parseR_some {t : List UInt8} {i : Int} {l : List Int} (h : validR i l = true) (e : fmtR i l = t) : parseR t = some (i, l) := by
  have hx : ∃ p : Int × List Int, validR p.1 p.2 = true ∧ fmtR p.1 p.2 = t := ⟨(i, l), h, e⟩
  unfold parseR
  rw [dif_pos hx]
  have hc := hx.choose_spec
  obtain ⟨e1, e2⟩ := fmtR_inj hc.1 h (hc.2.trans e.symm)
  exact congrArg some (Prod.ext e1 e2)
theorem parseR_none {t : List UInt8} (h : ∀ i l, validR i l = true → fmtR i l ≠ t) : parseR t = none := by
  unfold parseR
  rw [dif_neg (fun ⟨p, h1, h2⟩ => h _ _ h1 h2)]
theorem fmtR_hit {t : List UInt8} {i : Int} {l : List Int} (hne : t ≠ []) (e : fmtR i l = t) : parseR t = some (i, l) := by
  cases h : validR i l with
  | true => exact parseR_some h e
  | false => rw [fmtR_no h] at e; exact absurd e.symm hne
end Go.Proofs.YtlepnjahpmlccaaDoor
