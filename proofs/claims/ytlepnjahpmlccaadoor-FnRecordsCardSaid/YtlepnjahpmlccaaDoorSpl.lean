/- MADE BY PROGRAM (gensplit.py). SplitAny at a separator of one byte, of the reference and of the program. -/
import Derived.Test.YtlepnjahpmlccaaDoorSplP
namespace Go.Proofs.YtlepnjahpmlccaaDoor
open Go.RowKit Go.Lib
set_option linter.unusedVariables false
set_option maxRecDepth 100000
/-- A row of strings was made. -/
def OutStrs (ls : List (List UInt8)) (w : World) (e : Ending) (w' : World) : Prop :=
  ∃ A c, e = .returned (.slice A ls.length c) ∧ RS w' 1 A ls.length c (strs ls) ∧ (∀ x, x ∈ gOf A → w.heap.size ≤ x) ∧ Below w.heap.size w w'
theorem idx_one (b x : UInt8) : indexByte [b] ((x.toNat : Int).toNat.toUInt8) = if x = b then 0 else -1 := by
  have e : (x.toNat : Int).toNat.toUInt8 = x := by simp
  rw [e]
  unfold indexByte
  by_cases h : x = b
  · subst h; simp
  · rw [if_neg h]
    have : (b == x) = false := by rw [beq_eq_false_iff_ne]; exact fun e => h e.symm
    rw [this]
    simp [indexByte]
theorem I_idx (b x : UInt8) (w : World) : Calls Tryd.prog 74 #[.string ⟨#[b]⟩, .int .u8 x.toNat] w fun e w' => e = .returned (.int .i64 (if x = b then 0 else -1)) ∧ w = w' := by
  have h := Tryd.strings_IndexByte ⟨#[b]⟩ (x.toNat : Int) w
  rw [show (⟨#[b]⟩ : ByteArray).data.toList = [b] from rfl, idx_one] at h
  exact h.mono fun e w' ⟨h1, h2⟩ => ⟨h1, h2.symm⟩
/-- What the loops keep: the pieces cut off, and what is not yet cut. -/
def SplTo (b : UInt8) (l : List UInt8) (o : List (List UInt8)) (f i : Nat) : Prop := o ++ splitB b (l.drop f) = splitB b l ∧ f ≤ i ∧ ∀ x ∈ (l.take i).drop f, x ≠ b
theorem SplTo.skip {b : UInt8} {l : List UInt8} {o : List (List UInt8)} {f i : Nat} (h : SplTo b l o f i) (hi : i < l.length) (hx : l[i] ≠ b) : SplTo b l o f (i + 1) := by
  refine ⟨h.1, by have := h.2.1; omega, fun x hm => ?_⟩
  rw [List.take_succ_eq_append_getElem hi, List.drop_append_of_le_length (by have := h.2.1; simp; omega)] at hm
  rcases List.mem_append.1 hm with hm | hm
  · exact h.2.2 x hm
  · simp at hm; subst hm; exact hx
theorem SplTo.cut {b : UInt8} {l : List UInt8} {o : List (List UInt8)} {f i : Nat} (h : SplTo b l o f i) (hi : i < l.length) (hx : l[i] = b) : SplTo b l (o ++ [(l.take i).drop f]) (i + 1) (i + 1) := by
  refine ⟨?_, Nat.le_refl _, fun x hm => ?_⟩
  · have h1 := h.1
    rw [drop_split h.2.1 hi, hx, splitB_cut _ h.2.2] at h1
    rw [List.append_assoc]
    exact h1
  · rw [List.drop_eq_nil_of_le (by simp; omega)] at hm
    cases hm
theorem SplTo.all {b : UInt8} {l : List UInt8} {o : List (List UInt8)} {f : Nat} (h : SplTo b l o f l.length) : o ++ [l.drop f] = splitB b l := by
  have h2 := h.2.2
  rw [List.take_length] at h2
  rw [← h.1, splitB_none h2]
theorem SplTo.len {b : UInt8} {l : List UInt8} {o : List (List UInt8)} {f i : Nat} (h : SplTo b l o f i) : o.length ≤ l.length + 1 := by
  have h1 := congrArg List.length h.1
  rw [List.length_append] at h1
  have := splitB_len b l
  omega
set_option maxHeartbeats 8000000 in
theorem I_SplitAny (b : UInt8) (l : List UInt8) (w : World) (hlim : l.length ≤ 1048576) :
    Calls Tryd.prog 64 #[str l, .string ⟨#[b]⟩] w (OutStrs (splitB b l) w) := by
  have HG0 : Hid (Grow (w.alloc (.cells #[] 9)) w.heap.size 9 1 (some ⟨w.heap.size, 0, none⟩) 0 0 []) := Lib.hid (Grow.lit w #[] 0 rfl (Nat.le_refl _) (Nat.zero_le _))
  go_enter Tryd.func64, Tryd.ntmps64
  go_wp2_with fail
  go_loopw [5, 6, 7] (fun o_ f_ i_ wr => ∃ (i f : Nat) (B : Option Addr) (d : Nat) (o : List (List UInt8)), i ≤ l.length ∧ i_ = .int .i64 i ∧ f_ = .int .i64 f ∧ o_ = .slice B o.length d ∧ SplTo b l o f i ∧ Grow wr w.heap.size 9 1 B o.length d (strs o) ∧ Below w.heap.size w wr) (fun _ _ i_ _ => l.length - (RowKit.intOf i_).toNat)
  case atStart => exact ⟨0, 0, _, _, [], Nat.zero_le _, rfl, rfl, rfl, ⟨rfl, Nat.le_refl _, fun x hx => by simp at hx⟩, HG0.out, (by repeat (first | (with_reducible exact Below.refl _ _) | (with_reducible assumption) | ((with_reducible refine Below.alloc ?_ ?_ _); rotate_left; (first | omega | (simp <;> omega))) | ((with_reducible refine Below.setCell ?_ ?_ _); rotate_left; (first | omega | (simp <;> omega))) | (with_reducible refine below_drewN ?_ _) | (with_reducible refine Below.drew ?_) | ((with_reducible refine Below.step (by assumption) ?_ ?_); rotate_left; (first | omega | (simp <;> omega)))))⟩
  case round =>
    obtain ⟨i, f, B, d, o, hi, rfl, rfl, rfl, hs, hg, hb⟩ := hrel
    obtain ⟨wo, rfl⟩ : ∃ wo, wo = wr := ⟨_, rfl⟩
    have hol := hs.len
    have hfi := hs.2.1
    have HS := Lib.hid hs
    have HG := Lib.hid hg
    have HB := Lib.hid hb
    have hz := hb.size
    have hnn : o.length ≤ 1048577 := by omega
    clear hs hg hb HG0
    by_cases hlt : i < l.length
    · obtain ⟨x, hx⟩ : ∃ x, l[i] = x := ⟨_, rfl⟩
      have hat : ∀ hh : i < ByteArray.size ⟨l.toArray⟩, ({ data := l.toArray } : ByteArray)[i]'hh = x := fun hh => hx
      have HX := Lib.hid hx
      have hi1 : IntKind.i64.wrap ((i : Int) + 1) = i + 1 := IntWalk.i64_in _ (by omega)
      have i2 : (i : Int) < l.length := by omega
      have i3 : (i : Int) ≤ l.length := by omega
      have f2 : (f : Int) ≤ i := by omega
      clear hx hol
      by_cases hxb : x = b
      · subst hxb
        have HC := Lib.hid (HS.out.cut hlt HX.out)
        obtain ⟨u, hu⟩ : ∃ u, (l.take i).drop f = u := ⟨_, rfl⟩
        have hex : ({ data := l.toArray } : ByteArray).extract f i = ⟨u.toArray⟩ := by rw [str_extract, hu]
        rw [hu] at HC
        clear hu
        go_wp2_with (first | (go_at_call 74; refine (I_idx _ _ _).mono ?_; rw [if_pos rfl]; rintro e w' ⟨rfl, rfl⟩) | (at_builtin; refine wpList_app (by rfl) _ _ 51 (by rfl) (w.heap.size) 9 (.string ByteArray.empty) 1 16 Tryd.underlying51 T.infoString rfl (by decide) (xs := strs o) (by rfl) ?_ (ys := strs [u]) (by rfl) ?_ (strs_one _) ?_ ?_ ?_ ?_; (exact (by repeat (first | (with_reducible exact HG.out) | (with_reducible refine Grow.alloc ?_ _) | (with_reducible refine Grow.drewN ?_ _) | (with_reducible refine Grow.drew ?_) | ((with_reducible refine Grow.far ?_ ?_ _); rotate_left; (first | omega | (simp <;> omega))) | (with_reducible refine Grow.step (by assumption) ?_)))); (exact (Grow.rs (base := 0) (n := 1) (c := 1) (by repeat (first | (with_reducible refine Grow.drewN ?_ _) | (with_reducible refine Grow.drew ?_) | (refine Grow.lit_at (by simp) (by rfl) (Nat.zero_le _) (by unfold maxLen; omega)))))); (unfold maxLen; omega); (omega); (first | omega | (simp <;> omega)); rintro A' c' w2 gA; have g1 := gA.1; have g2 := gA.2.1; rw [strs_snoc] at g1; have HG1 := Lib.hid g1; have HB1 : Hid (Below w.heap.size w w2) := Lib.hid (Below.trans (Below.alloc HB.out (by omega) _) g2); clear gA g1 g2) | fail)
        go_roundw
        case rel => exact ⟨i + 1, i + 1, _, _, _, by omega, by go_num, by go_num, by rw [List.length_append]; rfl, HC.out, by rw [List.length_append]; exact HG1.out, HB1.out⟩
        case measure => simp [RowKit.intOf]; omega
      · have HC := Lib.hid (HS.out.skip hlt (by rw [HX.out]; exact hxb))
        go_wp2_with (first | (go_at_call 74; refine (I_idx _ _ _).mono ?_; rw [if_neg hxb]; rintro e w' ⟨rfl, rfl⟩) | fail)
        go_roundw
        case rel => exact ⟨i + 1, f, _, _, o, by omega, by go_num, rfl, rfl, HC.out, HG.out, HB.out⟩
        case measure => simp [RowKit.intOf]; omega
    · obtain rfl : i = l.length := by omega
      have HA := Lib.hid HS.out.all
      obtain ⟨u, hu⟩ : ∃ u, l.drop f = u := ⟨_, rfl⟩
      have hex : ({ data := l.toArray } : ByteArray).extract f l.length = ⟨u.toArray⟩ := by rw [str_extract, List.take_length, hu]
      have f2 : (f : Int) ≤ l.length := by omega
      rw [hu] at HA
      clear hu hol
      go_wp2_with (at_builtin; refine wpList_app (by rfl) _ _ 51 (by rfl) (w.heap.size) 9 (.string ByteArray.empty) 1 16 Tryd.underlying51 T.infoString rfl (by decide) (xs := strs o) (by rfl) ?_ (ys := strs [u]) (by rfl) ?_ (strs_one _) ?_ ?_ ?_ ?_; (exact (by repeat (first | (with_reducible exact HG.out) | (with_reducible refine Grow.alloc ?_ _) | (with_reducible refine Grow.drewN ?_ _) | (with_reducible refine Grow.drew ?_) | ((with_reducible refine Grow.far ?_ ?_ _); rotate_left; (first | omega | (simp <;> omega))) | (with_reducible refine Grow.step (by assumption) ?_)))); (exact (Grow.rs (base := 0) (n := 1) (c := 1) (by repeat (first | (with_reducible refine Grow.drewN ?_ _) | (with_reducible refine Grow.drew ?_) | (refine Grow.lit_at (by simp) (by rfl) (Nat.zero_le _) (by unfold maxLen; omega)))))); (unfold maxLen; omega); (omega); (first | omega | (simp <;> omega)); rintro A' c' w2 gA; have g1 := gA.1; have g2 := gA.2.1; rw [strs_snoc] at g1; have HG1 := Lib.hid g1; have HB1 : Hid (Below w.heap.size w w2) := Lib.hid (Below.trans (by repeat (first | (with_reducible exact Below.refl _ _) | (with_reducible exact HB.out) | (with_reducible assumption) | ((with_reducible refine Below.alloc ?_ ?_ _); rotate_left; (first | omega | (simp <;> omega))) | ((with_reducible refine Below.setCell ?_ ?_ _); rotate_left; (first | omega | (simp <;> omega))) | (with_reducible refine below_drewN ?_ _) | (with_reducible refine Below.drew ?_) | ((with_reducible refine Below.step (by assumption) ?_ ?_); rotate_left; (first | omega | (simp <;> omega))))) g2); clear gA g1 g2)
      go_ret
      have hll : (splitB b l).length = o.length + 1 := by rw [← HA.out, List.length_append]; rfl
      refine ⟨A', c', by rw [hll]; rfl, ?_, HG1.out.ge, HB1.out⟩
      rw [hll, ← HA.out]
      exact HG1.out.rs
set_option maxHeartbeats 8000000 in
theorem S_SplitAny (b : UInt8) (l : List UInt8) (w : World) (hlim : l.length ≤ 1048576) :
    Calls Tryd.prog 45 #[str l, .string ⟨#[b]⟩] w (OutStrs (splitB b l) w) := by
  have HG0 : Hid (Grow (w.alloc (.cells #[] 9)) w.heap.size 9 1 (some ⟨w.heap.size, 0, none⟩) 0 0 []) := Lib.hid (Grow.lit w #[] 0 rfl (Nat.le_refl _) (Nat.zero_le _))
  go_enter Tryd.func45, Tryd.ntmps45
  go_wp2_with fail
  go_loopw [5, 6, 7, 8] (fun o_ f_ i_ _ wr => ∃ (i f : Nat) (B : Option Addr) (d : Nat) (o : List (List UInt8)), i ≤ l.length ∧ i_ = .int .i64 i ∧ f_ = .int .i64 f ∧ o_ = .slice B o.length d ∧ SplTo b l o f i ∧ Grow wr w.heap.size 9 1 B o.length d (strs o) ∧ Below w.heap.size w wr) (fun _ _ i_ _ _ => l.length - (RowKit.intOf i_).toNat)
  case atStart => exact ⟨0, 0, _, _, [], Nat.zero_le _, rfl, rfl, rfl, ⟨rfl, Nat.le_refl _, fun x hx => by simp at hx⟩, HG0.out, (by repeat (first | (with_reducible exact Below.refl _ _) | (with_reducible assumption) | ((with_reducible refine Below.alloc ?_ ?_ _); rotate_left; (first | omega | (simp <;> omega))) | ((with_reducible refine Below.setCell ?_ ?_ _); rotate_left; (first | omega | (simp <;> omega))) | (with_reducible refine below_drewN ?_ _) | (with_reducible refine Below.drew ?_) | ((with_reducible refine Below.step (by assumption) ?_ ?_); rotate_left; (first | omega | (simp <;> omega)))))⟩
  case round =>
    obtain ⟨i, f, B, d, o, hi, rfl, rfl, rfl, hs, hg, hb⟩ := hrel
    obtain ⟨wo, rfl⟩ : ∃ wo, wo = wr := ⟨_, rfl⟩
    have hol := hs.len
    have hfi := hs.2.1
    have HS := Lib.hid hs
    have HG := Lib.hid hg
    have HB := Lib.hid hb
    have hz := hb.size
    have hnn : o.length ≤ 1048577 := by omega
    clear hs hg hb HG0
    by_cases hlt : i < l.length
    · obtain ⟨x, hx⟩ : ∃ x, l[i] = x := ⟨_, rfl⟩
      have hat : ∀ hh : i < ByteArray.size ⟨l.toArray⟩, ({ data := l.toArray } : ByteArray)[i]'hh = x := fun hh => hx
      have HX := Lib.hid hx
      have hi1 : IntKind.i64.wrap ((i : Int) + 1) = i + 1 := IntWalk.i64_in _ (by omega)
      have i2 : (i : Int) < l.length := by omega
      have i3 : (i : Int) ≤ l.length := by omega
      have f2 : (f : Int) ≤ i := by omega
      clear hx hol
      by_cases hxb : x = b
      · subst hxb
        have HC := Lib.hid (HS.out.cut hlt HX.out)
        obtain ⟨u, hu⟩ : ∃ u, (l.take i).drop f = u := ⟨_, rfl⟩
        have hex : ({ data := l.toArray } : ByteArray).extract f i = ⟨u.toArray⟩ := by rw [str_extract, hu]
        rw [hu] at HC
        clear hu
        have hb0 : ∀ hh : 0 < ByteArray.size ⟨#[x]⟩, ({ data := #[x] } : ByteArray)[0]'hh = x := fun _ => rfl
        go_wp2_with fail
        go_loopw [5, 6, 8] (fun o_ f_ k_ wr => o_ = .slice B o.length d ∧ f_ = .int .i64 f ∧ k_ = .int .i64 0 ∧ Grow wr w.heap.size 9 1 B o.length d (strs o) ∧ Below w.heap.size w wr) (fun _ _ _ _ => 0)
        case atStart => exact ⟨rfl, rfl, rfl, HG.out, HB.out⟩
        case round =>
          obtain ⟨rfl, rfl, rfl, hg, hb⟩ := hrel
          have HG := Lib.hid hg
          have HB := Lib.hid hb
          have hz := hb.size
          clear hg hb
          go_wp2_with fail
          go_region_held3 (fun _ => True) (trivial) (fail)
          go_wp2_with (at_builtin; refine wpList_app (by rfl) _ _ 51 (by rfl) (w.heap.size) 9 (.string ByteArray.empty) 1 16 Tryd.underlying51 T.infoString rfl (by decide) (xs := strs o) (by rfl) ?_ (ys := strs [u]) (by rfl) ?_ (strs_one _) ?_ ?_ ?_ ?_; (exact (by repeat (first | (with_reducible exact HG.out) | (with_reducible refine Grow.alloc ?_ _) | (with_reducible refine Grow.drewN ?_ _) | (with_reducible refine Grow.drew ?_) | ((with_reducible refine Grow.far ?_ ?_ _); rotate_left; (first | omega | (simp <;> omega))) | (with_reducible refine Grow.step (by assumption) ?_)))); (exact (Grow.rs (base := 0) (n := 1) (c := 1) (by repeat (first | (with_reducible refine Grow.drewN ?_ _) | (with_reducible refine Grow.drew ?_) | (refine Grow.lit_at (by simp) (by rfl) (Nat.zero_le _) (by unfold maxLen; omega)))))); (unfold maxLen; omega); (omega); (first | omega | (simp <;> omega)); rintro A' c' w2 gA; have g1 := gA.1; have g2 := gA.2.1; rw [strs_snoc] at g1; have HG1 := Lib.hid g1; have HB1 : Hid (Below w.heap.size w w2) := Lib.hid (Below.trans (by repeat (first | (with_reducible exact Below.refl _ _) | (with_reducible exact HB.out) | (with_reducible assumption) | ((with_reducible refine Below.alloc ?_ ?_ _); rotate_left; (first | omega | (simp <;> omega))) | ((with_reducible refine Below.setCell ?_ ?_ _); rotate_left; (first | omega | (simp <;> omega))) | (with_reducible refine below_drewN ?_ _) | (with_reducible refine Below.drew ?_) | ((with_reducible refine Below.step (by assumption) ?_ ?_); rotate_left; (first | omega | (simp <;> omega))))) g2); clear gA g1 g2)
          all_goals
            go_wp2_with fail
            go_roundw
            case rel => exact ⟨i + 1, i + 1, _, _, _, by omega, by go_num, by go_num, by rw [List.length_append]; rfl, HC.out, by rw [List.length_append]; exact HG1.out, HB1.out⟩
            case measure => simp [RowKit.intOf]; omega
      · have HC := Lib.hid (HS.out.skip hlt (by rw [HX.out]; exact hxb))
        have hb0 : ∀ hh : 0 < ByteArray.size ⟨#[b]⟩, ({ data := #[b] } : ByteArray)[0]'hh = b := fun _ => rfl
        have hne : ((x.toNat : Int) == b.toNat) = false := by
          rw [beq_eq_false_iff_ne]; intro h; exact hxb (UInt8.toNat_inj.1 (by omega))
        have hne2 : ¬ x.toNat = b.toNat := fun h => hxb (UInt8.toNat_inj.1 h)
        go_wp2_with fail
        go_loopw [5, 6, 8] (fun o_ f_ k_ wr => ∃ k : Nat, k ≤ 1 ∧ o_ = .slice B o.length d ∧ f_ = .int .i64 f ∧ k_ = .int .i64 k ∧ Grow wr w.heap.size 9 1 B o.length d (strs o) ∧ Below w.heap.size w wr) (fun _ _ k_ _ => 1 - (RowKit.intOf k_).toNat)
        case atStart => exact ⟨0, by omega, rfl, rfl, rfl, HG.out, HB.out⟩
        case round =>
          obtain ⟨k, hk, rfl, rfl, rfl, hg, hb⟩ := hrel
          have HG := Lib.hid hg
          have HB := Lib.hid hb
          have hz := hb.size
          clear hg hb
          by_cases hk0 : k = 0
          · subst hk0
            rw [show ((0 : Nat) : Int) = 0 from rfl]
            go_wp2_with fail
            go_region_held3 (fun _ => True) (trivial) (fail)
            all_goals
              go_wp2_with fail
              go_roundw
              case rel => exact ⟨1, by omega, rfl, rfl, rfl, (by repeat (first | (with_reducible exact HG.out) | (with_reducible refine Grow.alloc ?_ _) | (with_reducible refine Grow.drewN ?_ _) | (with_reducible refine Grow.drew ?_) | ((with_reducible refine Grow.far ?_ ?_ _); rotate_left; (first | omega | (simp <;> omega))) | (with_reducible refine Grow.step (by assumption) ?_))), (by repeat (first | (with_reducible exact Below.refl _ _) | (with_reducible exact HB.out) | (with_reducible assumption) | ((with_reducible refine Below.alloc ?_ ?_ _); rotate_left; (first | omega | (simp <;> omega))) | ((with_reducible refine Below.setCell ?_ ?_ _); rotate_left; (first | omega | (simp <;> omega))) | (with_reducible refine below_drewN ?_ _) | (with_reducible refine Below.drew ?_) | ((with_reducible refine Below.step (by assumption) ?_ ?_); rotate_left; (first | omega | (simp <;> omega)))))⟩
              case measure => simp [RowKit.intOf]
          · obtain rfl : k = 1 := by omega
            rw [show ((1 : Nat) : Int) = 1 from rfl]
            go_wp2_with fail
            go_roundw
            case rel => exact ⟨i + 1, f, _, _, o, by omega, by go_num, rfl, rfl, HC.out, HG.out, HB.out⟩
            case measure => simp [RowKit.intOf]; omega
    · obtain rfl : i = l.length := by omega
      have HA := Lib.hid HS.out.all
      obtain ⟨u, hu⟩ : ∃ u, l.drop f = u := ⟨_, rfl⟩
      have hex : ({ data := l.toArray } : ByteArray).extract f l.length = ⟨u.toArray⟩ := by rw [str_extract, List.take_length, hu]
      have f2 : (f : Int) ≤ l.length := by omega
      rw [hu] at HA
      clear hu hol
      go_wp2_with (at_builtin; refine wpList_app (by rfl) _ _ 51 (by rfl) (w.heap.size) 9 (.string ByteArray.empty) 1 16 Tryd.underlying51 T.infoString rfl (by decide) (xs := strs o) (by rfl) ?_ (ys := strs [u]) (by rfl) ?_ (strs_one _) ?_ ?_ ?_ ?_; (exact (by repeat (first | (with_reducible exact HG.out) | (with_reducible refine Grow.alloc ?_ _) | (with_reducible refine Grow.drewN ?_ _) | (with_reducible refine Grow.drew ?_) | ((with_reducible refine Grow.far ?_ ?_ _); rotate_left; (first | omega | (simp <;> omega))) | (with_reducible refine Grow.step (by assumption) ?_)))); (exact (Grow.rs (base := 0) (n := 1) (c := 1) (by repeat (first | (with_reducible refine Grow.drewN ?_ _) | (with_reducible refine Grow.drew ?_) | (refine Grow.lit_at (by simp) (by rfl) (Nat.zero_le _) (by unfold maxLen; omega)))))); (unfold maxLen; omega); (omega); (first | omega | (simp <;> omega)); rintro A' c' w2 gA; have g1 := gA.1; have g2 := gA.2.1; rw [strs_snoc] at g1; have HG1 := Lib.hid g1; have HB1 : Hid (Below w.heap.size w w2) := Lib.hid (Below.trans (by repeat (first | (with_reducible exact Below.refl _ _) | (with_reducible exact HB.out) | (with_reducible assumption) | ((with_reducible refine Below.alloc ?_ ?_ _); rotate_left; (first | omega | (simp <;> omega))) | ((with_reducible refine Below.setCell ?_ ?_ _); rotate_left; (first | omega | (simp <;> omega))) | (with_reducible refine below_drewN ?_ _) | (with_reducible refine Below.drew ?_) | ((with_reducible refine Below.step (by assumption) ?_ ?_); rotate_left; (first | omega | (simp <;> omega))))) g2); clear gA g1 g2)
      go_ret
      have hll : (splitB b l).length = o.length + 1 := by rw [← HA.out, List.length_append]; rfl
      refine ⟨A', c', by rw [hll]; rfl, ?_, HG1.out.ge, HB1.out⟩
      rw [hll, ← HA.out]
      exact HG1.out.rs
end Go.Proofs.YtlepnjahpmlccaaDoor
