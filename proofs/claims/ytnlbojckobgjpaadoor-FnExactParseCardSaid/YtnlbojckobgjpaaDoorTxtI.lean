/- Texts of integers: the reference's FormatInt and the program's. -/
import Derived.Test.YtnlbojckobgjpaaDoorTxtP
import Derived.Test.YtnlbojckobgjpaaDoorPure
import Derived.Deep.RegionHeld3
namespace Go.Proofs.YtnlbojckobgjpaaDoor
open Go.RowKit Go.Lib
set_option linter.unusedVariables false
set_option maxRecDepth 100000
abbrev str (l : List UInt8) : Value := .string ⟨l.toArray⟩
theorem conv_byte (b : UInt8) (n : Int) (hn : n = (b.toNat : Int)) (W : World) :
    (convert 80 9 (.slice (some ⟨W.heap.size, 0, none⟩) 1 1)).run Tryd.prog (W.alloc (.cells #[.int .u8 n] 5)) = .ok (str [b]) (W.alloc (.cells #[.int .u8 n] 5)) :=
  run_convert_bytes_back _ _ _ _ _ _ [b] Tryd.underlying80 Tryd.underlying5 Tryd.underlying9 (fun j hj => by
    obtain rfl : j = 0 := by simpa using hj
    subst hn
    exact World.cell?_alloc_new _ _ _ _)
/-- The byte of a digit. -/
def dgt (d : Nat) : UInt8 := UInt8.ofNat (48 + d)
theorem str_cat (a b : List UInt8) : ({ data := a.toArray } ++ { data := b.toArray } : ByteArray) = ⟨(a ++ b).toArray⟩ := by
  apply ByteArray.ext; simp
theorem dec_len {m n : Nat} {s : List UInt8} (h : decDigits m ++ s = decDigits n) (hn : n ≤ 1000000000) : s.length ≤ 10 := by
  have h1 := congrArg List.length h
  rw [List.length_append, decDigits_length n] at h1
  have := nDigits_le 9 n (by omega)
  omega
theorem ofNat_dig {d : Nat} (h : d < 10) : (48 + (d : Int)) = ((dgt d).toNat : Int) := by
  unfold dgt
  have : (UInt8.ofNat (48 + d)).toNat = 48 + d := by simp [UInt8.toNat_ofNat']; omega
  rw [this]; omega
theorem u8_dig {d : Nat} (h : d < 10) : IntKind.u8.wrap (48 + (d : Int)) = 48 + d := by
  have e : (2 : Int) ^ IntKind.u8.bits = 256 := rfl
  have e' : IntKind.u8.signed = false := rfl
  simp only [IntKind.wrap, e, e']
  simp
  omega
theorem dig_step {m : Nat} (h : 9 < m) : ∃ d q : Nat, (m : Int).tmod 10 = d ∧ (m : Int).tdiv 10 = q ∧ (d < 10 ∧ q * 10 + d = m) ∧ decDigits m = decDigits q ++ [dgt d] := by
  refine ⟨m % 10, m / 10, ?_, ?_, ⟨by omega, by omega⟩, ?_⟩
  · rw [Int.tmod_eq_emod_of_nonneg (by omega)]; omega
  · rw [Int.tdiv_eq_ediv_of_nonneg (by omega)]; omega
  · rw [decDigits, dif_neg (by omega)]; rfl
end Go.Proofs.YtnlbojckobgjpaaDoor
