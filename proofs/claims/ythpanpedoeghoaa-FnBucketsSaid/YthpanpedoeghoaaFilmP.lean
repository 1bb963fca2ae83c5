/- Storing values in films, one after the other: what it computes. No program in sight. -/
import Derived.Test.YthpanpedoeghoaaFilmC
import Derived.Test.YthpanpedoeghoaaFilmV
import Derived.Test.YthpanpedoeghoaaMerge
set_option linter.unusedVariables false
set_option linter.unusedSimpArgs false
set_option linter.unnecessarySimpa false
namespace Go.Proofs.Ythpanpedoeghoaa
open Go.RowKit
set_option linter.unusedVariables false
section
variable (at_ : Nat → Nat) (on : Nat → Bool) (v : Nat → Int)
def pixTo (s : List Int) : Nat → List Int
  | 0 => s
  | k + 1 => if on k then (pixTo s k).set (at_ k) (v k) else pixTo s k
def donTo (t : List Bool) : Nat → List Bool
  | 0 => t
  | k + 1 => if on k then (donTo t k).set (at_ k) true else donTo t k
/-- Number i meets no other value. -/
def okAt (s : List Int) (t : List Bool) (i : Nat) : Bool := !(on i && (t[at_ i]?.getD false && decide (¬ s[at_ i]?.getD 0 = v i)))
def okTo (s : List Int) (t : List Bool) (k : Nat) : Bool := (List.range k).all (okAt at_ on v s t)
variable {at_ on v}
theorem pixTo_len (s : List Int) : ∀ k, (pixTo at_ on v s k).length = s.length
  | 0 => rfl
  | k + 1 => by simp only [pixTo]; split <;> simp [pixTo_len s k]
theorem donTo_len (t : List Bool) : ∀ k, (donTo at_ on t k).length = t.length
  | 0 => rfl
  | k + 1 => by simp only [donTo]; split <;> simp [donTo_len t k]
theorem pixTo_far (s : List Int) {i : Nat} : ∀ k, (∀ j, j < k → at_ j ≠ i) → (pixTo at_ on v s k)[i]? = s[i]?
  | 0, _ => rfl
  | k + 1, h => by
    simp only [pixTo]
    split
    · rw [List.getElem?_set_ne (h k (by omega))]; exact pixTo_far s k (fun j hj => h j (by omega))
    · exact pixTo_far s k (fun j hj => h j (by omega))
theorem donTo_far (t : List Bool) {i : Nat} : ∀ k, (∀ j, j < k → at_ j ≠ i) → (donTo at_ on t k)[i]? = t[i]?
  | 0, _ => rfl
  | k + 1, h => by
    simp only [donTo]
    split
    · rw [List.getElem?_set_ne (h k (by omega))]; exact donTo_far t k (fun j hj => h j (by omega))
    · exact donTo_far t k (fun j hj => h j (by omega))
theorem pixTo_set {s : List Int} {k : Nat} (h : on k = true) : (ints (pixTo at_ on v s k)).set (at_ k) (.int .i64 (v k)) = ints (pixTo at_ on v s (k + 1)) := by
  simp only [pixTo, h, if_true, ints, List.map_set]
theorem donTo_set {t : List Bool} {k : Nat} (h : on k = true) : (bools (donTo at_ on t k)).set (at_ k) (.bool true) = bools (donTo at_ on t (k + 1)) := by
  simp only [donTo, h, if_true, bools, List.map_set]
theorem pixTo_on {s : List Int} {k : Nat} (h : on k = true) : (pixTo at_ on v s k).set (at_ k) (v k) = pixTo at_ on v s (k + 1) := by simp only [pixTo, h, if_true]
theorem donTo_on {t : List Bool} {k : Nat} (h : on k = true) : (donTo at_ on t k).set (at_ k) true = donTo at_ on t (k + 1) := by simp only [donTo, h, if_true]
theorem pixTo_off {s : List Int} {k : Nat} (h : on k = false) : pixTo at_ on v s (k + 1) = pixTo at_ on v s k := by simp [pixTo, h]
theorem donTo_off {t : List Bool} {k : Nat} (h : on k = false) : donTo at_ on t (k + 1) = donTo at_ on t k := by simp [donTo, h]
theorem okTo_succ {s : List Int} {t : List Bool} {k : Nat} (h : okTo at_ on v s t k = true) (h' : okAt at_ on v s t k = true) : okTo at_ on v s t (k + 1) = true := by
  unfold okTo at *; rw [List.range_succ, List.all_append, h]; simp [h']
theorem okTo_false {s : List Int} {t : List Bool} {k n : Nat} (hk : k < n) (h' : okAt at_ on v s t k = false) : okTo at_ on v s t n = false := by
  unfold okTo; rw [List.all_eq_false]; exact ⟨k, by simpa using hk, by simp [h']⟩
end
theorem getD_at {α : Type} {l : List α} {k : Nat} (h : k < l.length) (d : α) : l[k]?.getD d = l[k] := by simp [h]
abbrev onB (t : List Bool) (k : Nat) : Bool := t[k]?.getD false
abbrev atI (s : List Int) (k : Nat) : Int := s[k]?.getD 0
abbrev selfN (k : Nat) : Nat := k
/-- Merging: the pixels and marks of the second film over those of the first. -/
def pixM (s s' : List Int) (t' : List Bool) : List Int := pixTo selfN (onB t') (atI s') s t'.length
def donM (t t' : List Bool) : List Bool := donTo selfN (onB t') t t'.length
def mergeFOk (W H : Int) (s : List Int) (t : List Bool) (W' H' : Int) (s' : List Int) (t' : List Bool) : Bool :=
  validFilm W H s t && (validFilm W' H' s' t' && (decide (W = W') && (decide (H = H') && okTo selfN (onB t') (atI s') s t t'.length)))
theorem mergeF_ways (W H : Int) (s : List Int) (t : List Bool) (W' H' : Int) (s' : List Int) (t' : List Bool) : (validFilm W H s t = true ∧ validFilm W' H' s' t' = true ∧ (W != W') = false ∧ (H != H') = false ∧ Hid (mergeFOk W H s t W' H' s' t' = okTo selfN (onB t') (atI s') s t t'.length)) ∨
    (validFilm W H s t = false ∧ Hid (mergeFOk W H s t W' H' s' t' = false)) ∨ (validFilm W H s t = true ∧ validFilm W' H' s' t' = false ∧ Hid (mergeFOk W H s t W' H' s' t' = false)) ∨
    (validFilm W H s t = true ∧ validFilm W' H' s' t' = true ∧ (W != W') = true ∧ Hid (mergeFOk W H s t W' H' s' t' = false)) ∨ (validFilm W H s t = true ∧ validFilm W' H' s' t' = true ∧ (W != W') = false ∧ (H != H') = true ∧ Hid (mergeFOk W H s t W' H' s' t' = false)) := by
  unfold Hid mergeFOk
  cases h1 : validFilm W H s t <;> cases h2 : validFilm W' H' s' t' <;> by_cases h3 : W = W' <;> by_cases h4 : H = H' <;> simp [h3, h4]
/-- What a maker of films leaves. -/
def FilmMR (ok : Bool) (W H : Int) (l : List Int) (m : List Bool) (w : World) : Ending → World → Prop :=
  MadeFilm (fun s0 s1 => .tuple #[vFilm (if ok then W else 0) (if ok then H else 0) s0 s1, .bool ok]) (if ok then l else []).length (ints (if ok then l else [])) (if ok then m else []).length (bools (if ok then m else [])) w
theorem FilmMR.no {W H : Int} {l : List Int} {m : List Bool} {w w' : World} (hB : Below w.heap.size w w') : FilmMR false W H l m w (.returned (.tuple #[vFilm 0 0 (.slice none 0 0) (.slice none 0 0), .bool false])) w' :=
  ⟨none, 0, none, 0, rfl, OwnS.none_ _ _ _, OwnS.none_ _ _ _, fun x hx => absurd hx (by simp [gOf]), fun x hx => absurd hx (by simp [gOf]), fun x hx => absurd hx (by simp [gOf]), hB⟩
theorem okAt_off {at_ : Nat → Nat} {on : Nat → Bool} {v : Nat → Int} {s : List Int} {t : List Bool} {k : Nat} (h : on k = false) : okAt at_ on v s t k = true := by simp [okAt, h]
theorem okAt_is {at_ : Nat → Nat} {on : Nat → Bool} {v : Nat → Int} {s : List Int} {t : List Bool} {k : Nat} (h1 : at_ k < s.length) (h2 : at_ k < t.length) (h : t[at_ k] = true → s[at_ k] = v k) : okAt at_ on v s t k = true := by
  unfold okAt
  rw [getD_at h1, getD_at h2]
  cases ht : t[at_ k]
  · simp
  · simp [h ht]
theorem okAt_not {at_ : Nat → Nat} {on : Nat → Bool} {v : Nat → Int} {s : List Int} {t : List Bool} {k : Nat} (h0 : on k = true) (h1 : at_ k < s.length) (h2 : at_ k < t.length) (ht : t[at_ k] = true) (h : ¬ s[at_ k] = v k) : okAt at_ on v s t k = false := by
  unfold okAt
  rw [getD_at h1, getD_at h2, h0, ht]
  simp [h]
end Go.Proofs.Ythpanpedoeghoaa
