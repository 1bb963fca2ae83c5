/- Missing: what it computes. No program in sight. -/
import Derived.Test.YthpanpedoeghoaaPutP
import Derived.Test.YthpanpedoeghoaaPairs
set_option linter.unusedVariables false
set_option linter.unusedSimpArgs false
set_option linter.unnecessarySimpa false
namespace Go.Proofs.Ythpanpedoeghoaa
open Go.RowKit
set_option linter.unusedVariables false
/-- Pixel k of a bucket is not done. -/
def openAt (a x y p : Nat) (t : List Bool) (k : Nat) : Bool := !(t[bAt a x y p k]?.getD false)
/-- Some pixel of a bucket is not done. -/
def anyOpen (a x y p : Nat) (t : List Bool) (n : Nat) : Bool := (List.range n).any (openAt a x y p t)
def bOpen (W H : Int) (t : List Bool) (x y p q : Int) : Bool := insideF x y p q W H && anyOpen W.toNat x.toNat y.toNat p.toNat t (p.toNat * q.toNat)
theorem anyOpen_succ (a x y p : Nat) (t : List Bool) (n : Nat) : anyOpen a x y p t (n + 1) = (anyOpen a x y p t n || openAt a x y p t n) := by
  unfold anyOpen; rw [List.range_succ, List.any_append]; simp
theorem openAt_at {a x y p : Nat} {t : List Bool} {k : Nat} (h : bAt a x y p k < t.length) : openAt a x y p t k = !t[bAt a x y p k] := by
  unfold openAt; rw [getD_at h]
theorem anyOpen_true {a x y p : Nat} {t : List Bool} {k n : Nat} (hk : k < n) (h : openAt a x y p t k = true) : anyOpen a x y p t n = true := by
  unfold anyOpen; rw [List.any_eq_true]; exact ⟨k, by simpa using hk, h⟩
/-- The numbers up to n that are on. -/
def missTo (on : Nat → Bool) : Nat → List Int
  | 0 => []
  | k + 1 => if on k then missTo on k ++ [(k : Int)] else missTo on k
theorem missTo_len (on : Nat → Bool) : ∀ n, (missTo on n).length ≤ n
  | 0 => Nat.le_refl _
  | k + 1 => by have := missTo_len on k; simp only [missTo]; split <;> simp <;> omega
theorem missTo_on {on : Nat → Bool} {k : Nat} (h : on k = true) : missTo on (k + 1) = missTo on k ++ [(k : Int)] := by simp [missTo, h]
theorem missTo_off {on : Nat → Bool} {k : Nat} (h : on k = false) : missTo on (k + 1) = missTo on k := by simp [missTo, h]
def missOn (W H : Int) (t : List Bool) (l : List EBucket) (k : Nat) : Bool := let b := l[k]?.getD (0, 0, 0, 0); bOpen W H t b.1 b.2.1 b.2.2.1 b.2.2.2
theorem missOn_at {W H : Int} {t : List Bool} {l : List EBucket} {k : Nat} (h : k < l.length) : missOn W H t l k = bOpen W H t l[k].1 l[k].2.1 l[k].2.2.1 l[k].2.2.2 := by
  unfold missOn; rw [getD_at h]
def missF (W H : Int) (s : List Int) (t : List Bool) (l : List EBucket) : List Int := if validFilm W H s t then missTo (missOn W H t l) l.length else []
theorem missF_len (W H : Int) (s : List Int) (t : List Bool) (l : List EBucket) : (missF W H s t l).length ≤ l.length := by
  unfold missF; split
  · exact missTo_len _ _
  · simp
theorem ints_app (a b : List Int) : ints (a ++ b) = ints a ++ ints b := by simp [ints]
end Go.Proofs.Ythpanpedoeghoaa
