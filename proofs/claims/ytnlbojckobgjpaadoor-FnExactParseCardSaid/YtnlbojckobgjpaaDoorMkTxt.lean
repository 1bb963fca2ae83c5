/- The law's markText. -/
import Derived.Test.YtnlbojckobgjpaaDoorTxtI
import Derived.Test.YtnlbojckobgjpaaDoorMark
namespace Go.Proofs.YtnlbojckobgjpaaDoor
open Go.RowKit Go.Lib
set_option linter.unusedVariables false
set_option linter.unusedSimpArgs false
set_option maxRecDepth 100000
def mtGo : Nat → Nat → List UInt8 → List UInt8
  | 0, _, out => out
  | f + 1, k, out => if k = 0 then out else mtGo f (k / 10) (UInt8.ofNat (48 + k % 10) :: out)
/-- The text of a mark. -/
def markT (k : Nat) : List UInt8 := 109 :: mtGo (k + 1) k []
theorem mtGo_zero (f : Nat) (out : List UInt8) : mtGo f 0 out = out := by cases f <;> simp [mtGo]
theorem mtGo_pos {f k : Nat} {out : List UInt8} (h : k ≠ 0) : mtGo (f + 1) k out = mtGo f (k / 10) (UInt8.ofNat (48 + k % 10) :: out) := by rw [mtGo, if_neg h]
set_option maxHeartbeats 2000000 in
theorem L_markText {k : Nat} (w : World) (h0 : 0 < k) (h1 : k ≤ 1099511627776) :
    Calls Tryd.prog 34 #[.int .i64 k] w fun e w' => e = .returned (str (markT k)) ∧ Below w.heap.size w w' := by
  have hk : ¬ (k : Int) ≤ 0 := by omega
  obtain ⟨T, hT⟩ : ∃ T, mtGo (k + 1) k [] = T := ⟨_, rfl⟩
  have HT : Hid (markT k = 109 :: T) := Lib.hid (by unfold markT; rw [hT])
  have HST : Hid (mtGo (k + 1) k [] = T) := Lib.hid hT
  clear hT
  go_enter Tryd.func34, Tryd.ntmps34
  go_wp2_with fail
  go_loopw [0, 3] (fun q s wr => ∃ (m f : Nat) (out : List UInt8), m ≤ k ∧ q = .int .i64 m ∧ s = str out ∧ m < f ∧ out.length + f = k + 1 ∧ mtGo f m out = T ∧ Below w.heap.size w wr) (fun q _ _ => (RowKit.intOf q).toNat)
  case atStart => exact ⟨k, k + 1, [], Nat.le_refl _, rfl, rfl, by omega, by simp, HST.out, Below.refl _ _⟩
  case round =>
    obtain ⟨m, f, out, hmk, rfl, rfl, hf, hlf, hg, hb⟩ := hrel
    obtain ⟨wo, rfl⟩ : ∃ wo, wo = wr := ⟨_, rfl⟩
    have HB := Lib.hid hb
    have hz := hb.size
    have HG := Lib.hid hg
    clear hb hg HST
    by_cases hm : m = 0
    · subst hm
      have HG0 : Hid (out = T) := Lib.hid (by have := HG.out; rw [mtGo_zero] at this; exact this)
      have hl1 : 1 + out.length ≤ 9223372036854775807 := by omega
      have hcat : ({ data := #[109] } ++ { data := out.toArray } : ByteArray) = ⟨(109 :: out).toArray⟩ := str_cat [109] out
      go_wp2_with fail
      go_ret
      rw [HT.out, ← HG0.out]
      exact ⟨rfl, HB.out⟩
    · obtain ⟨f', rfl⟩ : ∃ f', f = f' + 1 := ⟨f - 1, by omega⟩
      have hm0 : (0 : Int) < m := by omega
      obtain ⟨r, hr⟩ : ∃ r, m % 10 = r := ⟨_, rfl⟩
      obtain ⟨q, hq⟩ : ∃ q, m / 10 = q := ⟨_, rfl⟩
      have hr9 : r < 10 := by omega
      have hqm : q < m := by omega
      have e1 : Int.tmod (m : Int) 10 = r := by rw [← hr]; rfl
      have e2 : Int.tdiv (m : Int) 10 = q := by rw [← hq]; rfl
      have HN : Hid (mtGo f' q (UInt8.ofNat (48 + r) :: out) = T) := Lib.hid (by have := HG.out; rw [mtGo_pos hm, hr, hq] at this; exact this)
      have hw1 : IntKind.i64.wrap ((48 : Int) + r) = 48 + r := IntWalk.i64_in _ (by omega)
      have hw2 := u8_dig hr9
      have hcv := conv_byte (dgt r) (48 + r) (ofNat_dig hr9)
      have hdg : UInt8.ofNat (48 + r) = dgt r := rfl
      rw [hdg] at HN
      generalize dgt r = bb at *
      have hl1 : 1 + out.length ≤ 9223372036854775807 := by omega
      have hcat : ({ data := #[bb] } ++ { data := out.toArray } : ByteArray) = ⟨(bb :: out).toArray⟩ := str_cat [bb] out
      clear hr hq hm hdg
      go_wp2_with fail
      go_roundw
      case rel => exact ⟨q, f', bb :: out, by omega, rfl, rfl, by omega, by simp; omega, HN.out, (by repeat (first | (with_reducible exact Below.refl _ _) | (with_reducible exact HB.out) | (with_reducible assumption) | ((with_reducible refine Below.alloc ?_ ?_ _); rotate_left; (first | omega | (simp <;> omega))) | ((with_reducible refine Below.setCell ?_ ?_ _); rotate_left; (first | omega | (simp <;> omega))) | (with_reducible refine below_drewN ?_ _) | (with_reducible refine Below.drew ?_) | ((with_reducible refine Below.step (by assumption) ?_ ?_); rotate_left; (first | omega | (simp <;> omega)))))⟩
      case measure => simp [RowKit.intOf]; omega
end Go.Proofs.YtnlbojckobgjpaaDoor
