/- TokenTexts and Roots of the program: how long their results are. -/
import Derived.Test.YtnlbojckobgjpaaGreatDoorSameI
import Derived.Test.YtnlbojckobgjpaaGreatDoorMgF
set_option linter.unusedVariables false
set_option linter.unusedSimpArgs false
namespace Go.Proofs.YtnlbojckobgjpaaGreatDoor
open Go.RowKit Go.Lib
set_option maxRecDepth 100000
theorem ints_snocK (l : List Int) (x : Int) : ints l ++ ints [x] = ints (l ++ [x]) := by simp
theorem ET.toks_len (t : ET) : t.toks.length ≤ 6 * t.size := by
  induction t with
  | num n | name x | call0 x => simp [toks, size]
  | neg t ih | call1 x t ih => simp [toks, size]; omega
  | bin op a b iha ihb | call2 x a b iha ihb => simp [toks, size]; omega
  | call3 x a b c iha ihb ihc => simp [toks, size]; omega
theorem toksL_len : ∀ (L : EL), (toksL L).length ≤ 3 * L.length + 6 * sizeL L
  | [] => Nat.zero_le _
  | x :: r => by have := toksL_len r; have := x.2.toks_len; simp [toksL, sizeL]; omega
/-- The tokens of the text. -/
theorem toks_textL {L : EL} (h : okL L) (hs : sizeL L ≤ 31) (hl : L.length ≤ 20) : ∃ T : List ETok, toksF (textL L) = .ok T ∧ T.length ≤ 1000 ∧ 0 < T.length ∧ (∀ (i : Nat) (hi : i < T.length), i + 1 < T.length → T[i].1 ≠ 0) ∧ (∀ (i : Nat) (hi : i < T.length), ¬ i + 1 < T.length → T[i].1 = 0) := by
  have hlen := textL_len L h
  obtain ⟨r, h1, h2⟩ := (textL_lex L h).toksF (by omega)
  have hT := toksF_ok h1
  have hr : r.length = (toksL L).length := by rw [← h2]; simp
  have ht := toksL_len L
  have key : ∀ (T : List ETok) (i : Nat) (hi : i < T.length), T[i].1 = kd T i := fun T i hi => by
    unfold kd tk
    rw [List.getD_eq_getElem?_getD, List.getElem?_eq_getElem hi]; rfl
  refine ⟨_, h1, by simp; omega, hT.pos, fun i hi h => ?_, fun i hi h => ?_⟩
  · rw [key _ _ hi]; exact hT.inner i h
  · rw [key _ _ hi]
    rw [show i = (r ++ [((0 : Int), ([] : List UInt8), (0 : Int), ((textL L).length : Int))]).length - 1 by omega]
    exact hT.last
set_option maxHeartbeats 8000000 in
theorem I_TokenTexts {A : Option Addr} {c : Nat} {Ts : List ETok} (w : World) (h : RS w 4 A Ts.length c (rTok Ts)) (hl : Ts.length ≤ 1000) (hp : 0 < Ts.length) (hin : ∀ (i : Nat) (hi : i < Ts.length), i + 1 < Ts.length → Ts[i].1 ≠ 0) (hlast : ∀ (i : Nat) (hi : i < Ts.length), ¬ i + 1 < Ts.length → Ts[i].1 = 0) :
    Calls Tryz.prog 10 #[.slice A Ts.length c] w fun e w' => ∃ B d, e = .returned (.slice B (Ts.length - 1) d) ∧ Below w.heap.size w w' := by
  have HR := Lib.hid h
  have HIN := Lib.hid hin
  have HLA := Lib.hid hlast
  have hcap := h.open_.2.1
  unfold maxLen at hcap
  clear h hin hlast
  have HG0 : Hid (Grow (w.alloc (.cells #[] 9)) w.heap.size 9 1 (some ⟨w.heap.size, 0, none⟩) 0 0 []) := Lib.hid (Grow.lit w #[] 0 rfl (Nat.le_refl _) (Nat.zero_le _))
  go_enter Tryz.func10, Tryz.ntmps10
  go_wp2_with fail
  go_loopw [3, 9] (fun o_ i_ wr => ∃ (k : Nat) (B : Option Addr) (d : Nat) (o : List (List UInt8)), k ≤ Ts.length ∧ i_ = .int .i64 k ∧ o_ = .slice B o.length d ∧ Hid (o.length = min k (Ts.length - 1)) ∧ Grow wr w.heap.size 9 1 B o.length d (strs o) ∧ Below w.heap.size w wr) (fun _ i_ _ => Ts.length - (RowKit.intOf i_).toNat)
  case atStart => exact ⟨0, _, _, [], Nat.zero_le _, rfl, rfl, Lib.hid (by simp), HG0.out, (by repeat (first | (with_reducible exact Below.refl _ _) | (with_reducible assumption) | ((with_reducible refine Below.alloc ?_ ?_ _); rotate_left; (first | omega | (simp <;> omega))) | ((with_reducible refine Below.setCell ?_ ?_ _); rotate_left; (first | omega | (simp <;> omega))) | (with_reducible refine below_drewN ?_ _) | (with_reducible refine Below.drew ?_) | ((with_reducible refine Below.step (by assumption) ?_ ?_); rotate_left; (first | omega | (simp <;> omega)))))⟩
  case round =>
    obtain ⟨k, B, d, o, hk, rfl, rfl, ho, hg, hb⟩ := hrel
    obtain ⟨wo, rfl⟩ : ∃ wo, wo = wr := ⟨_, rfl⟩
    have hol : o.length ≤ 1000 := by have := ho.out; omega
    have HG := Lib.hid hg
    have HB := Lib.hid hb
    have hz := hb.size
    clear hg HG0
    by_cases hlt : k < Ts.length
    · obtain ⟨b, o', rfl, hbl, hcell⟩ := (RS.step hb HR.out).open_.2.2 hp
      obtain ⟨q0, q1, q2, q3⟩ := rTok_at hlt
      have x0 := (hcell (k * 4) (by omega)).trans q0
      have x1 := (hcell (k * 4 + 1) (by omega)).trans q1
      have x2 := (hcell (k * 4 + 2) (by omega)).trans q2
      have x3 := (hcell (k * 4 + 3) (by omega)).trans q3
      rw [← Nat.add_assoc] at x1 x2 x3
      have i0 : (0 : Int) ≤ k := by omega
      have i1 : (k : Int) < Ts.length := by omega
      obtain ⟨⟨kk, tt, nn, oo⟩, hx⟩ : ∃ x, Ts[k] = x := ⟨_, rfl⟩
      have HI := Lib.hid (HIN.out k hlt)
      have HL := Lib.hid (HLA.out k hlt)
      rw [hx] at x0 x1 x2 x3 HI HL
      (try dsimp only at x0 x1 x2 x3 HI HL)
      clear hcell q0 q1 q2 q3 hx hb
      by_cases hq : k + 1 < Ts.length
      · have hne : (kk != 0) = true := by simpa using HI.out hq
        clear HI HL
        go_wp2_with (at_builtin; (refine wpList_app (by rfl) _ _ 35 (by rfl) (w.heap.size) 9 (.string ByteArray.empty) 1 16 Tryz.underlying35 T.infoString rfl (by decide) (xs := strs o) (by rfl) ?_ (ys := strs [tt]) (by rfl) ?_ (strs_one _) ?_ ?_ ?_ ?_; (exact (by repeat (first | (with_reducible exact HG.out) | (with_reducible refine Grow.alloc ?_ _) | (with_reducible refine Grow.drewN ?_ _) | (with_reducible refine Grow.drew ?_) | ((with_reducible refine Grow.far ?_ ?_ _); rotate_left; (first | omega | (simp <;> omega))) | (with_reducible refine Grow.step (by assumption) ?_)))); (exact (Grow.rs (base := 0) (n := 1) (c := 1) (by repeat (first | (with_reducible refine Grow.drewN ?_ _) | (with_reducible refine Grow.drew ?_) | (refine Grow.lit_at (by simp) (by rfl) (Nat.zero_le _) (by unfold maxLen; omega)))))); (unfold maxLen; omega); (omega); (first | omega | (simp <;> omega)); rintro A' c' w2 gA); have g1 := gA.1; have g2 := gA.2.1; rw [strs_snoc] at g1; have HG1 := Lib.hid g1; have HB1 : Hid (Below w.heap.size w w2) := Lib.hid (Below.trans (by repeat (first | (with_reducible exact Below.refl _ _) | (with_reducible exact HB.out) | (with_reducible assumption) | ((with_reducible refine Below.alloc ?_ ?_ _); rotate_left; (first | omega | (simp <;> omega))) | ((with_reducible refine Below.setCell ?_ ?_ _); rotate_left; (first | omega | (simp <;> omega))) | (with_reducible refine below_drewN ?_ _) | (with_reducible refine Below.drew ?_) | ((with_reducible refine Below.step (by assumption) ?_ ?_); rotate_left; (first | omega | (simp <;> omega))))) g2); clear gA g1 g2)
        go_roundw
        case rel => exact ⟨k + 1, _, _, o ++ [tt], by omega, by go_num, by rw [List.length_append]; rfl, Lib.hid (by have := ho.out; rw [List.length_append]; simp; omega), by rw [List.length_append]; exact HG1.out, HB1.out⟩
        case measure => simp [RowKit.intOf] <;> omega
      · have hne : (kk != 0) = false := by simpa using HL.out hq
        clear HI HL
        go_wp2_with fail
        go_roundw
        case rel => exact ⟨k + 1, _, _, o, by omega, by go_num, rfl, Lib.hid (by have := ho.out; omega), (by repeat (first | (with_reducible exact HG.out) | (with_reducible refine Grow.alloc ?_ _) | (with_reducible refine Grow.drewN ?_ _) | (with_reducible refine Grow.drew ?_) | ((with_reducible refine Grow.far ?_ ?_ _); rotate_left; (first | omega | (simp <;> omega))) | (with_reducible refine Grow.step (by assumption) ?_))), (by repeat (first | (with_reducible exact Below.refl _ _) | (with_reducible exact HB.out) | (with_reducible assumption) | ((with_reducible refine Below.alloc ?_ ?_ _); rotate_left; (first | omega | (simp <;> omega))) | ((with_reducible refine Below.setCell ?_ ?_ _); rotate_left; (first | omega | (simp <;> omega))) | (with_reducible refine below_drewN ?_ _) | (with_reducible refine Below.drew ?_) | ((with_reducible refine Below.step (by assumption) ?_ ?_); rotate_left; (first | omega | (simp <;> omega)))))⟩
        case measure => simp [RowKit.intOf] <;> omega
    · obtain rfl : k = Ts.length := by omega
      have hol2 : o.length = Ts.length - 1 := by have := ho.out; omega
      clear hb
      go_wp2_with fail
      go_ret
      exact ⟨B, d, by rw [hol2]; rfl, HB.out⟩
set_option maxHeartbeats 8000000 in
theorem I_Roots {A A2 : Option Addr} {c c2 : Nat} {p : EProg} (w : World) (h : ProgIn w A c A2 c2 p) (hl : p.2.length ≤ 1000) :
    Calls Tryz.prog 11 #[vProg A p.1.length c A2 p.2.length c2] w fun e w' => ∃ B d, e = .returned (.slice B p.2.length d) ∧ Below w.heap.size w w' := by
  have HR := Lib.hid h.2
  have hcap := h.2.2.1
  unfold maxLen at hcap
  clear h
  go_enter Tryz.func11, Tryz.ntmps11
  have HG0 : Hid (Grow ((w.alloc (.cells #[.slice A p.1.length c, .slice A2 p.2.length c2] 26)).alloc (.cells #[] 3)) (w.heap.size + 1) 3 1 (some ⟨w.heap.size + 1, 0, none⟩) 0 0 []) := Lib.hid (Grow.lit_at (by simp) rfl (by simp) (Nat.zero_le _))
  go_wp2_with fail
  go_loopw [3, 10] (fun o_ i_ wr => ∃ (k : Nat) (B : Option Addr) (d : Nat) (o : List Int), k ≤ p.2.length ∧ i_ = .int .i64 k ∧ o_ = .slice B o.length d ∧ Hid (o.length = k) ∧ Grow wr (w.heap.size + 1) 3 1 B o.length d (ints o) ∧ Below w.heap.size w wr) (fun _ i_ _ => p.2.length - (RowKit.intOf i_).toNat)
  case atStart => exact ⟨0, _, _, [], Nat.zero_le _, rfl, rfl, Lib.hid rfl, HG0.out, (by repeat (first | (with_reducible exact Below.refl _ _) | (with_reducible assumption) | ((with_reducible refine Below.alloc ?_ ?_ _); rotate_left; (first | omega | (simp <;> omega))) | ((with_reducible refine Below.setCell ?_ ?_ _); rotate_left; (first | omega | (simp <;> omega))) | (with_reducible refine below_drewN ?_ _) | (with_reducible refine Below.drew ?_) | ((with_reducible refine Below.step (by assumption) ?_ ?_); rotate_left; (first | omega | (simp <;> omega)))))⟩
  case round =>
    obtain ⟨k, B, d, o, hk, rfl, rfl, ho, hg, hb⟩ := hrel
    obtain ⟨wo, rfl⟩ : ∃ wo, wo = wr := ⟨_, rfl⟩
    have hol : o.length ≤ 1000 := by have := ho.out; omega
    have HG := Lib.hid hg
    have HB := Lib.hid hb
    have hz := hb.size
    have hgl := hg.lt
    clear hg HG0
    by_cases hlt : k < p.2.length
    · obtain ⟨b, o', rfl, hbl, _, x0, x1⟩ := (HR.out.step hb).2.2 k hlt
      have i0 : (0 : Int) ≤ k := by omega
      have i1 : (k : Int) < p.2.length := by omega
      obtain ⟨⟨nn, rr⟩, hx⟩ : ∃ x, p.2[k] = x := ⟨_, rfl⟩
      rw [hx] at x0 x1
      (try dsimp only at x0 x1)
      clear hx hb
      go_wp2_with (first | (at_builtin; refine wpList_app (by rfl) _ _ 37 (by rfl) (w.heap.size + 1) 3 (.int .i64 0) 1 8 Tryz.underlying37 T.infoInt rfl (by decide) (xs := ints o) (by rfl) ?_ (ys := ints [rr]) (by rfl) ?_ (ints_one _) ?_ ?_ ?_ ?_; (exact (by repeat (first | (with_reducible exact HG.out) | (with_reducible refine Grow.alloc ?_ _) | (with_reducible refine Grow.drewN ?_ _) | (with_reducible refine Grow.drew ?_) | ((with_reducible refine Grow.far ?_ ?_ _); rotate_left; (first | omega | (simp <;> omega))) | (with_reducible refine Grow.step (by assumption) ?_)))); (exact (Grow.rs (base := 0) (n := 1) (c := 1) (by repeat (first | (with_reducible refine Grow.drewN ?_ _) | (with_reducible refine Grow.drew ?_) | (refine Grow.lit_at (by simp) (by rfl) (Nat.zero_le _) (by unfold maxLen; omega)))))); (unfold maxLen; omega); (omega); (first | omega | (simp <;> omega)); rintro A' c' w2 gA; have g1 := gA.1; have g2 := gA.2.1; rw [ints_snocK] at g1; have HG1 := Lib.hid g1; have HB1 : Hid (Below w.heap.size w w2) := Lib.hid (Below.trans (by repeat (first | (with_reducible exact Below.refl _ _) | (with_reducible exact HB.out) | (with_reducible assumption) | ((with_reducible refine Below.alloc ?_ ?_ _); rotate_left; (first | omega | (simp <;> omega))) | ((with_reducible refine Below.setCell ?_ ?_ _); rotate_left; (first | omega | (simp <;> omega))) | (with_reducible refine below_drewN ?_ _) | (with_reducible refine Below.drew ?_) | ((with_reducible refine Below.step (by assumption) ?_ ?_); rotate_left; (first | omega | (simp <;> omega))))) (g2.mono (by omega))); clear gA g1 g2) | fail)
      go_roundw
      case rel => exact ⟨k + 1, _, _, o ++ [rr], by omega, by go_num, by rw [List.length_append]; rfl, Lib.hid (by have := ho.out; rw [List.length_append]; simp; omega), by rw [List.length_append]; exact HG1.out, HB1.out⟩
      case measure => simp [RowKit.intOf] <;> omega
    · obtain rfl : k = p.2.length := by omega
      have hol2 : o.length = p.2.length := ho.out
      clear hb
      go_wp2_with fail
      go_ret
      exact ⟨B, d, by rw [hol2]; rfl, HB.out⟩
end Go.Proofs.YtnlbojckobgjpaaGreatDoor
