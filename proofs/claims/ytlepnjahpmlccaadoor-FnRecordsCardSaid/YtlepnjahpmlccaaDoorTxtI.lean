/- Texts of integers: the reference's FormatInt and the program's. -/
import Derived.Test.YtlepnjahpmlccaaDoorTxtP
import Derived.Test.YtlepnjahpmlccaaDoorPure
import Derived.Deep.RegionHeld3
namespace Go.Proofs.YtlepnjahpmlccaaDoor
open Go.RowKit Go.Lib
set_option linter.unusedVariables false
set_option maxRecDepth 100000
abbrev str (l : List UInt8) : Value := .string ⟨l.toArray⟩
theorem conv_byte (b : UInt8) (n : Int) (hn : n = (b.toNat : Int)) (W : World) :
    (convert 44 9 (.slice (some ⟨W.heap.size, 0, none⟩) 1 1)).run Tryd.prog (W.alloc (.cells #[.int .u8 n] 5)) = .ok (str [b]) (W.alloc (.cells #[.int .u8 n] 5)) :=
  run_convert_bytes_back _ _ _ _ _ _ [b] Tryd.underlying44 Tryd.underlying5 Tryd.underlying9 (fun j hj => by
    obtain rfl : j = 0 := by simpa using hj
    subst hn
    exact World.cell?_alloc_new _ _ _ _)
/-- The byte of a digit. -/
def dgt (d : Nat) : UInt8 := UInt8.ofNat (48 + d)
theorem str_cat (a b : List UInt8) : ({ data := a.toArray } ++ { data := b.toArray } : ByteArray) = ⟨(a ++ b).toArray⟩ := by
  apply ByteArray.ext; simp
theorem dec_len {m n : Nat} {s : List UInt8} (h : decDigits m ++ s = decDigits n) (hn : n ≤ 1000000000) : s.length ≤ 10 := by
  have h1 := congrArg List.length h
  rw [List.length_append, decDigits_length n] at h1
  have := nDigits_le 9 n (by omega)
  omega
theorem ofNat_dig {d : Nat} (h : d < 10) : (48 + (d : Int)) = ((dgt d).toNat : Int) := by
  unfold dgt
  have : (UInt8.ofNat (48 + d)).toNat = 48 + d := by simp [UInt8.toNat_ofNat']; omega
  rw [this]; omega
theorem u8_dig {d : Nat} (h : d < 10) : IntKind.u8.wrap (48 + (d : Int)) = 48 + d := by
  have e : (2 : Int) ^ IntKind.u8.bits = 256 := rfl
  have e' : IntKind.u8.signed = false := rfl
  simp only [IntKind.wrap, e, e']
  simp
  omega
theorem dig_step {m : Nat} (h : 9 < m) : ∃ d q : Nat, (m : Int).tmod 10 = d ∧ (m : Int).tdiv 10 = q ∧ (d < 10 ∧ q * 10 + d = m) ∧ decDigits m = decDigits q ++ [dgt d] := by
  refine ⟨m % 10, m / 10, ?_, ?_, ⟨by omega, by omega⟩, ?_⟩
  · rw [Int.tmod_eq_emod_of_nonneg (by omega)]; omega
  · rw [Int.tdiv_eq_ediv_of_nonneg (by omega)]; omega
  · rw [decDigits, dif_neg (by omega)]; rfl
set_option maxHeartbeats 4000000 in
theorem S_FormatInt_nat (n : Nat) (hn : n ≤ 1000000000) (w : World) :
    Calls Tryd.prog 28 #[.int .i64 n] w fun e w' => e = .returned (str (decDigits n)) ∧ Below w.heap.size w w' := by
  have HN := Lib.hid hn
  have h0 : ¬ (n : Int) < 0 := by omega
  have hi : inB n (-1000000000) 1000000000 = true := inB_mk (by omega) (by omega)
  go_enter Tryd.func28, Tryd.ntmps28
  go_wp2_with (first | (go_at_call 34; refine (S_in _ _ _ _).mono ?_; rw [hi]; rintro e w' ⟨rfl, rfl⟩) | fail)
  go_loopw [0, 3] (fun p q wr => ∃ (m : Nat) (s : List UInt8), p = .int .i64 m ∧ q = str s ∧ m ≤ 1000000000 ∧ decDigits m ++ s = decDigits n ∧ Below w.heap.size w wr) (fun p _ _ => (intOf p).toNat)
  case atStart => exact ⟨n, [], rfl, rfl, hn, by simp, (by repeat (first | (with_reducible exact Below.refl _ _) | (with_reducible assumption) | ((with_reducible refine Below.alloc ?_ ?_ _); rotate_left; (first | omega | (simp <;> omega))) | ((with_reducible refine Below.setCell ?_ ?_ _); rotate_left; (first | omega | (simp <;> omega))) | (with_reducible refine below_drewN ?_ _) | (with_reducible refine Below.drew ?_) | ((with_reducible refine Below.step (by assumption) ?_ ?_); rotate_left; (first | omega | (simp <;> omega)))))⟩
  case round =>
    obtain ⟨m, s, rfl, rfl, hm, hs, hb⟩ := hrel
    have HS := Lib.hid hs
    have HB := Lib.hid hb
    have hz := hb.size
    have hsl : ¬ 9223372036854775807 < 1 + s.length := by have := dec_len hs hn; omega
    clear hs hb hi h0 hn
    by_cases h9 : 9 < m
    · obtain ⟨d, q, hd, hq, hdq, hdd⟩ := dig_step h9
      have h1 : (9 : Int) < (m : Int) := by omega
      have hd1 : IntKind.i64.wrap (48 + (d : Int)) = 48 + d := IntWalk.i64_in _ (by omega)
      have hd2 : IntKind.u8.wrap (48 + (d : Int)) = 48 + d := u8_dig hdq.1
      have hcv := conv_byte _ _ (ofNat_dig hdq.1)
      clear h9
      go_wp2_with fail
      go_roundw
      case rel =>
        refine ⟨q, dgt d :: s, rfl, ?_, by omega, ?_, (by repeat (first | (with_reducible exact Below.refl _ _) | (with_reducible exact HB.out) | (with_reducible assumption) | ((with_reducible refine Below.alloc ?_ ?_ _); rotate_left; (first | omega | (simp <;> omega))) | ((with_reducible refine Below.setCell ?_ ?_ _); rotate_left; (first | omega | (simp <;> omega))) | (with_reducible refine below_drewN ?_ _) | (with_reducible refine Below.drew ?_) | ((with_reducible refine Below.step (by assumption) ?_ ?_); rotate_left; (first | omega | (simp <;> omega)))))⟩
        · show Value.string (({ data := [dgt d].toArray } : ByteArray) ++ { data := s.toArray }) = _
          rw [str_cat]; rfl
        · have := HS.out; rw [hdd] at this; simpa using this
      case measure => simp [intOf]; omega

    · have h1 : ¬ (9 : Int) < (m : Int) := by omega
      have hcv := conv_byte _ _ (ofNat_dig (d := m) (by omega))
      have hd1 : IntKind.i64.wrap (48 + (m : Int)) = 48 + m := IntWalk.i64_in _ (by omega)
      have hd2 : IntKind.u8.wrap (48 + (m : Int)) = 48 + m := u8_dig (by omega)
      go_wp2_with fail
      go_ret
      refine ⟨?_, (by repeat (first | (with_reducible exact Below.refl _ _) | (with_reducible exact HB.out) | (with_reducible assumption) | ((with_reducible refine Below.alloc ?_ ?_ _); rotate_left; (first | omega | (simp <;> omega))) | ((with_reducible refine Below.setCell ?_ ?_ _); rotate_left; (first | omega | (simp <;> omega))) | (with_reducible refine below_drewN ?_ _) | (with_reducible refine Below.drew ?_) | ((with_reducible refine Below.step (by assumption) ?_ ?_); rotate_left; (first | omega | (simp <;> omega)))))⟩
      show Ending.returned (Value.string (({ data := [dgt m].toArray } : ByteArray) ++ { data := s.toArray })) = _
      rw [str_cat, show ([dgt m] ++ s : List UInt8) = decDigits n from by rw [← HS.out, decDigits, dif_pos (by omega)]; rfl]

end Go.Proofs.YtlepnjahpmlccaaDoor
