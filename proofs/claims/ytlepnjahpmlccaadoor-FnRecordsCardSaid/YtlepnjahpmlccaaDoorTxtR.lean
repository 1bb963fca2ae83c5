/- MADE BY PROGRAM (genparse.py). ParseInt of the reference. -/
import Derived.Test.YtlepnjahpmlccaaDoorTxtQ
namespace Go.Proofs.YtlepnjahpmlccaaDoor
open Go.RowKit Go.Lib
set_option linter.unusedVariables false
set_option maxRecDepth 100000
theorem parse_take {l : List UInt8} {i k n d : Nat} {b : UInt8} (hk : k ≤ i) (h : decFrom 0 ((l.take i).drop k) = some n) (hb : l[i]? = some b) (hd : digitVal b = some d) : decFrom 0 ((l.take (i + 1)).drop k) = some (n * 10 + d) := by
  have hi : i < l.length := (List.getElem?_eq_some_iff.1 hb).1
  rw [List.take_succ_eq_append_getElem hi, List.drop_append_of_le_length (by simp; omega), decFrom_append, h]
  have : l[i] = b := (List.getElem?_eq_some_iff.1 hb).2
  simp only [Option.bind_some, decFrom, this, hd]
theorem parse_bound {l : List UInt8} {i k n : Nat} (h : decFrom 0 ((l.take i).drop k) = some n) (hl : l.length ≤ 12) : n < 1000000000000 := by
  have h1 := decFrom_lt _ _ _ h
  have h2 : ((l.take i).drop k).length ≤ 12 := by simp; omega
  have h3 : (10 : Nat) ^ ((l.take i).drop k).length ≤ 10 ^ 12 := Nat.pow_le_pow_right (by decide) h2
  omega
theorem str_at {l : List UInt8} {i : Nat} {b : UInt8} (h : l[i]? = some b) : ∀ hh : i < ByteArray.size ⟨l.toArray⟩, ({ data := l.toArray } : ByteArray)[i]'hh = b :=
  fun hh => (List.getElem?_eq_some_iff.1 h).2
theorem b_i64 (b : UInt8) : IntKind.i64.wrap (b.toNat : Int) = b.toNat := IntWalk.i64_in _ (by have := b.toNat_lt; omega)
theorem digit_of {b : UInt8} (h : 48 ≤ b.toNat ∧ b.toNat ≤ 57) : ∃ d : Nat, d ≤ 9 ∧ (b.toNat : Int) - 48 = d ∧ digitVal b = some d :=
  ⟨b.toNat - 48, by omega, by omega, by unfold digitVal; rw [if_pos h]⟩
set_option maxHeartbeats 8000000 in
theorem S_ParseInt_nil (w : World) :
    Calls Tryd.prog 46 #[str []] w fun e w' => e = .returned (vPI (parseI [])) ∧ Below w.heap.size w w' := by
  go_enter Tryd.func46, Tryd.ntmps46
  go_wp2_with fail
  go_loopw [4, 6, 7] (fun p q _ wr => ∃ (n i : Nat), p = .int .i64 n ∧ q = .int .i64 i ∧ i ≤ ([] : List UInt8).length ∧ decFrom 0 ((([] : List UInt8).take i).drop 0) = some n ∧ (0 < i → ([] : List UInt8).length ≤ 12) ∧ Below w.heap.size w wr) (fun _ q _ _ => ([] : List UInt8).length - (RowKit.intOf q).toNat)
  case atStart => exact ⟨0, 0, rfl, rfl, Nat.zero_le _, rfl, by omega, (by repeat (first | (with_reducible exact Below.refl _ _) | (with_reducible assumption) | ((with_reducible refine Below.alloc ?_ ?_ _); rotate_left; (first | omega | (simp <;> omega))) | ((with_reducible refine Below.setCell ?_ ?_ _); rotate_left; (first | omega | (simp <;> omega))) | (with_reducible refine below_drewN ?_ _) | (with_reducible refine Below.drew ?_) | ((with_reducible refine Below.step (by assumption) ?_ ?_); rotate_left; (first | omega | (simp <;> omega)))))⟩
  case round =>
    obtain ⟨n, i, rfl, rfl, hi, hn, h12, hb⟩ := hrel
    have HN := Lib.hid hn
    have HB := Lib.hid hb
    have H12 := Lib.hid h12
    clear hn hb h12
    obtain rfl : i = 0 := by simpa using hi
    go_wp2_with fail
    exact bodyPost_ret (v := vPI none) (by simp [results, Tryd.results46, go_sem]) rfl ⟨rfl, HB.out⟩
set_option maxHeartbeats 8000000 in
theorem S_ParseInt_pos (l : List UInt8) (w : World) (hlim : l.length ≤ 4611686018427387904) (c : UInt8) (hc : l[0]? = some c) (hc45 : c ≠ 45) :
    Calls Tryd.prog 46 #[str l] w fun e w' => e = .returned (vPI (parseI l)) ∧ Below w.heap.size w w' := by
  have hpos : 0 < l.length := (List.getElem?_eq_some_iff.1 hc).1
  have HC0 := Lib.hid hc
  have hb0 := str_at hc
  have hn45 : ((c.toNat : Int) == 45) = false := by
    rw [beq_eq_false_iff_ne]; intro h; exact hc45 (UInt8.toNat_inj.1 (by rw [show (45 : UInt8).toNat = 45 from rfl]; omega))
  clear hc
  go_enter Tryd.func46, Tryd.ntmps46
  go_wp2_with fail
  go_loopw [4, 6, 7] (fun p q _ wr => ∃ (n i : Nat), p = .int .i64 n ∧ q = .int .i64 i ∧ i ≤ l.length ∧ decFrom 0 ((l.take i).drop 0) = some n ∧ (0 < i → l.length ≤ 12) ∧ Below w.heap.size w wr) (fun _ q _ _ => l.length - (RowKit.intOf q).toNat)
  case atStart => exact ⟨0, 0, rfl, rfl, Nat.zero_le _, rfl, by omega, (by repeat (first | (with_reducible exact Below.refl _ _) | (with_reducible assumption) | ((with_reducible refine Below.alloc ?_ ?_ _); rotate_left; (first | omega | (simp <;> omega))) | ((with_reducible refine Below.setCell ?_ ?_ _); rotate_left; (first | omega | (simp <;> omega))) | (with_reducible refine below_drewN ?_ _) | (with_reducible refine Below.drew ?_) | ((with_reducible refine Below.step (by assumption) ?_ ?_); rotate_left; (first | omega | (simp <;> omega)))))⟩
  case round =>
    obtain ⟨n, i, rfl, rfl, hi, hn, h12, hb⟩ := hrel
    have HN := Lib.hid hn
    have HB := Lib.hid hb
    have H12 := Lib.hid h12
    clear hn hb h12
    by_cases hlt : i < l.length
    · obtain ⟨b, hbi⟩ : ∃ b, l[i]? = some b := ⟨_, List.getElem?_eq_getElem hlt⟩
      have HBI := Lib.hid hbi
      have hat := str_at hbi
      have hw0 := b_i64 b
      have hi1 : IntKind.i64.wrap ((i : Int) + 1) = i + 1 := IntWalk.i64_in _ (by omega)
      clear hbi hb0
      have hs : (i : Int) = 0 ∨ ¬ (i : Int) = 0 := by omega
      have hz_ : i = 0 ∨ ¬ i = 0 := by omega
      rcases hz_ with rfl | hz_
      · obtain rfl : n = 0 := (Option.some.inj HN.out).symm
        have w0 : IntKind.i64.wrap 0 = 0 := rfl
        have w1 : IntKind.i64.wrap 1 = 1 := rfl
        clear hs hi1
        rw [show ((0 : Nat) : Int) = 0 from rfl]
        by_cases hdig : 48 ≤ b.toNat ∧ b.toNat ≤ 57
        · obtain ⟨d, hd9, hd, hdv⟩ := digit_of hdig
          have hd1 : IntKind.i64.wrap ((b.toNat : Int) - 48) = d := by rw [hd]; exact IntWalk.i64_in _ (by omega)
          have hd2 : IntKind.i64.wrap (d : Int) = d := IntWalk.i64_in _ (by omega)
          have HD := Lib.hid hdv
          have hdz : ¬ (d : Int) < 0 := by omega
          have hd9' : ¬ (9 : Int) < (d : Int) := by omega
          clear hdv hd hdig
          by_cases hlong : 12 < l.length
          · have hll : (12 : Int) < (l.length : Int) := by omega
            have HP : Hid (parseI l = none) := Lib.hid (parseI_long hlong)
            clear hlong
            go_wp2_with fail
            exact bodyPost_ret (v := vPI none) (by simp [results, Tryd.results46, go_sem]) rfl ⟨by rw [HP.out], HB.out⟩
          · have hll : ¬ (12 : Int) < (l.length : Int) := by omega
            have HT := Lib.hid (parse_take (k := 0) (Nat.le_refl 0) HN.out HBI.out HD.out)
            clear hlong
            go_wp2_with fail
            go_roundw
            case rel => exact ⟨d, 1, rfl, rfl, by omega, by simpa using HT.out, by omega, (by repeat (first | (with_reducible exact Below.refl _ _) | (with_reducible exact HB.out) | (with_reducible assumption) | ((with_reducible refine Below.alloc ?_ ?_ _); rotate_left; (first | omega | (simp <;> omega))) | ((with_reducible refine Below.setCell ?_ ?_ _); rotate_left; (first | omega | (simp <;> omega))) | (with_reducible refine below_drewN ?_ _) | (with_reducible refine Below.drew ?_) | ((with_reducible refine Below.step (by assumption) ?_ ?_); rotate_left; (first | omega | (simp <;> omega)))))⟩
            case measure => simp [RowKit.intOf]; omega
        · have HP : Hid (parseI l = none) := Lib.hid (parseI_bad HBI.out hdig (by intro _; intro e; subst e; exact hc45 (Option.some.inj (HC0.out.symm.trans HBI.out))))
          obtain ⟨z, hz⟩ : ∃ z : Int, IntKind.i64.wrap ((b.toNat : Int) - 48) = z := ⟨_, rfl⟩
          have hzr : z < 0 ∨ 9 < z := by
            rw [← hz, IntWalk.i64_in _ (by have := b.toNat_lt; omega)]; omega
          clear hdig
          rcases hzr with hz0 | hz9
          · go_wp2_with fail
            exact bodyPost_ret (v := vPI none) (by simp [results, Tryd.results46, go_sem]) rfl ⟨by rw [HP.out], HB.out⟩
          · have hz0 : ¬ z < 0 := by omega
            go_wp2_with fail
            exact bodyPost_ret (v := vPI none) (by simp [results, Tryd.results46, go_sem]) rfl ⟨by rw [HP.out], HB.out⟩
      · have hiz : ¬ (i : Int) = 0 := by omega
        clear hs
        by_cases hdig : 48 ≤ b.toNat ∧ b.toNat ≤ 57
        · obtain ⟨d, hd9, hd, hdv⟩ := digit_of hdig
          have hd1 : IntKind.i64.wrap ((b.toNat : Int) - 48) = d := by rw [hd]; exact IntWalk.i64_in _ (by omega)
          have HD := Lib.hid hdv
          have hdz : ¬ (d : Int) < 0 := by omega
          have hd9' : ¬ (9 : Int) < (d : Int) := by omega
          clear hdv hd hdig
          by_cases hlong : 12 < l.length
          · have hll : (12 : Int) < (l.length : Int) := by omega
            have HP : Hid (parseI l = none) := Lib.hid (parseI_long hlong)
            clear hlong
            go_wp2_with fail
            exact bodyPost_ret (v := vPI none) (by simp [results, Tryd.results46, go_sem]) rfl ⟨by rw [HP.out], HB.out⟩
          · have hll : ¬ (12 : Int) < (l.length : Int) := by omega
            have hnb := parse_bound HN.out (by omega)
            have hm1 : IntKind.i64.wrap ((n : Int) * 10) = n * 10 := IntWalk.i64_in _ (by omega)
            have hm2 : IntKind.i64.wrap ((n : Int) * 10 + d) = n * 10 + d := IntWalk.i64_in _ (by omega)
            clear hlong
            go_wp2_with fail
            go_roundw
            case rel => exact ⟨n * 10 + d, i + 1, by go_num, by go_num, by omega, parse_take (by omega) HN.out HBI.out HD.out, by omega, (by repeat (first | (with_reducible exact Below.refl _ _) | (with_reducible exact HB.out) | (with_reducible assumption) | ((with_reducible refine Below.alloc ?_ ?_ _); rotate_left; (first | omega | (simp <;> omega))) | ((with_reducible refine Below.setCell ?_ ?_ _); rotate_left; (first | omega | (simp <;> omega))) | (with_reducible refine below_drewN ?_ _) | (with_reducible refine Below.drew ?_) | ((with_reducible refine Below.step (by assumption) ?_ ?_); rotate_left; (first | omega | (simp <;> omega)))))⟩
            case measure => simp [RowKit.intOf]; omega
        · have HP : Hid (parseI l = none) := Lib.hid (parseI_bad HBI.out hdig (by intro h; exact absurd h hz_))
          obtain ⟨z, hz⟩ : ∃ z : Int, IntKind.i64.wrap ((b.toNat : Int) - 48) = z := ⟨_, rfl⟩
          have hzr : z < 0 ∨ 9 < z := by
            rw [← hz, IntWalk.i64_in _ (by have := b.toNat_lt; omega)]; omega
          clear hdig
          rcases hzr with hz0 | hz9
          · go_wp2_with fail
            exact bodyPost_ret (v := vPI none) (by simp [results, Tryd.results46, go_sem]) rfl ⟨by rw [HP.out], HB.out⟩
          · have hz0 : ¬ z < 0 := by omega
            go_wp2_with fail
            exact bodyPost_ret (v := vPI none) (by simp [results, Tryd.results46, go_sem]) rfl ⟨by rw [HP.out], HB.out⟩
    · obtain rfl : i = l.length := by omega
      have hfull : decFrom 0 l = some n := by have := HN.out; rw [List.take_length] at this; exact this
      have hbig := parse_bound HN.out (H12.out hpos)
      have hem : l.isEmpty = false := by cases l with | nil => cases hpos | cons => rfl
      by_cases hf : fmtI (n : Int) = l
      · have HP : Hid (parseI l = some (n : Int)) := Lib.hid (parseI_of (by rintro rfl; cases hpos) hf)
        clear hbig hfull hi hlt
        go_wp2_with fail
        refine (S_FormatInt _ _).mono ?_
        rintro e w2 ⟨rfl, hb2⟩
        go_wp2_with fail
        exact bodyPost_ret (v := vPI (some (n : Int))) (by simp [results, Tryd.results46, go_sem]) rfl ⟨by rw [HP.out], Below.step hb2 HB.out HB.out.size⟩
      · have HP : Hid (parseI l = none) := Lib.hid (parseI_pos hfull hf)
        have hfb : (fmtI (n : Int) == l) = false := by simpa using hf
        clear hbig hfull hi hlt
        go_wp2_with fail
        refine (S_FormatInt _ _).mono ?_
        rintro e w2 ⟨rfl, hb2⟩
        go_wp2_with fail
        exact bodyPost_ret (v := vPI none) (by simp [results, Tryd.results46, go_sem]) rfl ⟨by rw [HP.out], Below.step hb2 HB.out HB.out.size⟩
set_option maxHeartbeats 8000000 in
theorem S_ParseInt_neg (l : List UInt8) (w : World) (hlim : l.length ≤ 4611686018427387904) (hc : l[0]? = some 45) :
    Calls Tryd.prog 46 #[str l] w fun e w' => e = .returned (vPI (parseI l)) ∧ Below w.heap.size w w' := by
  have hpos : 0 < l.length := (List.getElem?_eq_some_iff.1 hc).1
  have HC0 := Lib.hid hc
  have hb0 := str_at hc
  clear hc
  go_enter Tryd.func46, Tryd.ntmps46
  go_wp2_with fail
  go_loopw [4, 6, 7] (fun p q _ wr => ∃ (n i : Nat), p = .int .i64 n ∧ q = .int .i64 i ∧ i ≤ l.length ∧ decFrom 0 ((l.take i).drop 1) = some n ∧ (1 < i → l.length ≤ 12) ∧ Below w.heap.size w wr) (fun _ q _ _ => l.length - (RowKit.intOf q).toNat)
  case atStart => exact ⟨0, 0, rfl, rfl, Nat.zero_le _, rfl, by omega, (by repeat (first | (with_reducible exact Below.refl _ _) | (with_reducible assumption) | ((with_reducible refine Below.alloc ?_ ?_ _); rotate_left; (first | omega | (simp <;> omega))) | ((with_reducible refine Below.setCell ?_ ?_ _); rotate_left; (first | omega | (simp <;> omega))) | (with_reducible refine below_drewN ?_ _) | (with_reducible refine Below.drew ?_) | ((with_reducible refine Below.step (by assumption) ?_ ?_); rotate_left; (first | omega | (simp <;> omega)))))⟩
  case round =>
    obtain ⟨n, i, rfl, rfl, hi, hn, h12, hb⟩ := hrel
    have HN := Lib.hid hn
    have HB := Lib.hid hb
    have H12 := Lib.hid h12
    clear hn hb h12
    by_cases hlt : i < l.length
    · obtain ⟨b, hbi⟩ : ∃ b, l[i]? = some b := ⟨_, List.getElem?_eq_getElem hlt⟩
      have HBI := Lib.hid hbi
      have hat := str_at hbi
      have hw0 := b_i64 b
      have hi1 : IntKind.i64.wrap ((i : Int) + 1) = i + 1 := IntWalk.i64_in _ (by omega)
      clear hbi hb0
      by_cases hi0 : i = 0
      · subst hi0
        obtain ⟨z, hz⟩ : ∃ z : Int, IntKind.i64.wrap ((b.toNat : Int) - 48) = z := ⟨_, rfl⟩
        go_wp2_with fail
        go_roundw
        case rel => exact ⟨n, 1, rfl, by go_num, by omega, by have := HN.out; simp at this ⊢; cases l <;> simpa using this, by omega, (by repeat (first | (with_reducible exact Below.refl _ _) | (with_reducible exact HB.out) | (with_reducible assumption) | ((with_reducible refine Below.alloc ?_ ?_ _); rotate_left; (first | omega | (simp <;> omega))) | ((with_reducible refine Below.setCell ?_ ?_ _); rotate_left; (first | omega | (simp <;> omega))) | (with_reducible refine below_drewN ?_ _) | (with_reducible refine Below.drew ?_) | ((with_reducible refine Below.step (by assumption) ?_ ?_); rotate_left; (first | omega | (simp <;> omega)))))⟩
        case measure => simp [RowKit.intOf]; omega
      · have hiz : ¬ (i : Int) = 0 := by omega
        by_cases hdig : 48 ≤ b.toNat ∧ b.toNat ≤ 57
        · obtain ⟨d, hd9, hd, hdv⟩ := digit_of hdig
          have hd1 : IntKind.i64.wrap ((b.toNat : Int) - 48) = d := by rw [hd]; exact IntWalk.i64_in _ (by omega)
          have HD := Lib.hid hdv
          have hdz : ¬ (d : Int) < 0 := by omega
          have hd9' : ¬ (9 : Int) < (d : Int) := by omega
          clear hdv hd hdig
          by_cases hlong : 12 < l.length
          · have hll : (12 : Int) < (l.length : Int) := by omega
            have HP : Hid (parseI l = none) := Lib.hid (parseI_long hlong)
            clear hlong
            go_wp2_with fail
            exact bodyPost_ret (v := vPI none) (by simp [results, Tryd.results46, go_sem]) rfl ⟨by rw [HP.out], HB.out⟩
          · have hll : ¬ (12 : Int) < (l.length : Int) := by omega
            have hnb := parse_bound HN.out (by omega)
            have hm1 : IntKind.i64.wrap ((n : Int) * 10) = n * 10 := IntWalk.i64_in _ (by omega)
            have hm2 : IntKind.i64.wrap ((n : Int) * 10 + d) = n * 10 + d := IntWalk.i64_in _ (by omega)
            clear hlong
            go_wp2_with fail
            go_roundw
            case rel => exact ⟨n * 10 + d, i + 1, by go_num, by go_num, by omega, parse_take (by omega) HN.out HBI.out HD.out, by omega, (by repeat (first | (with_reducible exact Below.refl _ _) | (with_reducible exact HB.out) | (with_reducible assumption) | ((with_reducible refine Below.alloc ?_ ?_ _); rotate_left; (first | omega | (simp <;> omega))) | ((with_reducible refine Below.setCell ?_ ?_ _); rotate_left; (first | omega | (simp <;> omega))) | (with_reducible refine below_drewN ?_ _) | (with_reducible refine Below.drew ?_) | ((with_reducible refine Below.step (by assumption) ?_ ?_); rotate_left; (first | omega | (simp <;> omega)))))⟩
            case measure => simp [RowKit.intOf]; omega
        · have HP : Hid (parseI l = none) := Lib.hid (parseI_bad HBI.out hdig (by intro h; exact absurd h hi0))
          obtain ⟨z, hz⟩ : ∃ z : Int, IntKind.i64.wrap ((b.toNat : Int) - 48) = z := ⟨_, rfl⟩
          have hzr : z < 0 ∨ 9 < z := by
            rw [← hz, IntWalk.i64_in _ (by have := b.toNat_lt; omega)]; omega
          clear hdig
          rcases hzr with hz0 | hz9
          · go_wp2_with fail
            exact bodyPost_ret (v := vPI none) (by simp [results, Tryd.results46, go_sem]) rfl ⟨by rw [HP.out], HB.out⟩
          · have hz0 : ¬ z < 0 := by omega
            go_wp2_with fail
            exact bodyPost_ret (v := vPI none) (by simp [results, Tryd.results46, go_sem]) rfl ⟨by rw [HP.out], HB.out⟩
    · obtain rfl : i = l.length := by omega
      have hfull : decFrom 0 l.tail = some n := by have := HN.out; rw [List.take_length] at this; cases l with | nil => exact this | cons => exact this
      have hcons : l = 45 :: l.tail := by have := HC0.out; cases l with | nil => cases this | cons a t => simp at this; rw [this]; rfl
      have hbig : n < 1000000000000 ∨ n = 0 := by
        by_cases h1 : 1 < l.length
        · exact .inl (parse_bound HN.out (H12.out h1))
        · right
          have ht : l.tail = [] := List.eq_nil_of_length_eq_zero (by rw [List.length_tail]; omega)
          rw [ht] at hfull
          exact (Option.some.inj hfull).symm
      have hng : IntKind.i64.wrap (-(n : Int)) = -n := IntWalk.i64_in _ (by omega)
      have hem : l.isEmpty = false := by rw [hcons]; rfl
      obtain ⟨m, hm⟩ : ∃ m : Int, -(n : Int) = m := ⟨_, rfl⟩
      by_cases hf : fmtI m = l
      · have HP : Hid (parseI l = some m) := Lib.hid (parseI_of (by rw [hcons]; simp) hf)
        clear hbig hcons hfull hi hlt
        rw [hm] at hng
        go_wp2_with fail
        all_goals (try rw [hm])
        refine (S_FormatInt _ _).mono ?_
        rintro e w2 ⟨rfl, hb2⟩
        go_wp2_with fail
        exact bodyPost_ret (v := vPI (some m)) (by simp [results, Tryd.results46, go_sem]) rfl ⟨by rw [HP.out], Below.step hb2 HB.out HB.out.size⟩
      · have HP : Hid (parseI l = none) := Lib.hid (by rw [hcons]; exact parseI_neg hfull (by rw [hm, ← hcons]; exact hf))
        have hfb : (fmtI m == l) = false := by simpa using hf
        clear hbig hcons hfull hi hlt
        rw [hm] at hng
        go_wp2_with fail
        all_goals (try rw [hm])
        refine (S_FormatInt _ _).mono ?_
        rintro e w2 ⟨rfl, hb2⟩
        go_wp2_with fail
        exact bodyPost_ret (v := vPI none) (by simp [results, Tryd.results46, go_sem]) rfl ⟨by rw [HP.out], Below.step hb2 HB.out HB.out.size⟩
theorem S_ParseInt (l : List UInt8) (w : World) (hlim : l.length ≤ 4611686018427387904) :
    Calls Tryd.prog 46 #[str l] w fun e w' => e = .returned (vPI (parseI l)) ∧ Below w.heap.size w w' := by
  cases hc : l[0]? with
  | none =>
    obtain rfl : l = [] := by cases l with | nil => rfl | cons => cases hc
    exact S_ParseInt_nil w
  | some c =>
    by_cases h45 : c = 45
    · subst h45; exact S_ParseInt_neg l w hlim hc
    · exact S_ParseInt_pos l w hlim c hc h45
end Go.Proofs.YtlepnjahpmlccaaDoor
