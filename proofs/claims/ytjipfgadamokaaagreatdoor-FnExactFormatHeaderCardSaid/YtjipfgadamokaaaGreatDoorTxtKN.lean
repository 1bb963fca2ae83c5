/- MADE BY PROGRAM (genfintn.py). FormatInts of the reference and of the program, for values that have a text. -/
import Derived.Test.YtjipfgadamokaaaGreatDoorMgC
set_option linter.unusedVariables false
set_option linter.unusedSimpArgs false
namespace Go.Proofs.YtjipfgadamokaaaGreatDoor
open Go.RowKit Go.Lib
set_option maxRecDepth 100000
/-- The text of a list of integers. -/
def fmtL (l : List Int) : List UInt8 := join (l.map fmtI) [44]
theorem in256 {l : List Int} {k : Nat} (h : allIn l 0 256 = true) (hk : k < l.length) : 0 ≤ l[k] ∧ l[k] ≤ 256 := by
  unfold allIn at h
  rw [List.all_eq_true] at h
  exact inB_true (h _ (List.getElem_mem hk))
theorem inNum256 {n : Int} (h : 0 ≤ n ∧ n ≤ 256) : inNum n := by unfold inNum; omega
theorem joinTail_len (r : List (List UInt8)) (B : Nat) (h : ∀ x ∈ r, x.length ≤ B) : (joinTail [44] r).length ≤ r.length * (B + 1) := by
  induction r with
  | nil => simp [joinTail]
  | cons a t ih =>
    have h1 := h a (by simp)
    have h2 := ih (fun x hx => h x (by simp [hx]))
    have e : joinTail [44] (a :: t) = [44] ++ a ++ joinTail [44] t := by simp [joinTail]
    rw [e, List.length_append, List.length_append, List.length_cons]
    simp only [List.length_cons, List.length_nil]
    rw [Nat.succ_mul]
    omega
theorem fmtL_len (l : List Int) : (fmtL l).length ≤ l.length * 12 := by
  unfold fmtL
  cases l with
  | nil => simp [join_nil]
  | cons a t =>
    rw [List.map_cons, join_cons, List.length_append]
    have h1 := fmtI_len a
    have h2 := joinTail_len (t.map fmtI) 11 (fun x hx => by obtain ⟨y, _, rfl⟩ := List.mem_map.1 hx; exact fmtI_len y)
    rw [List.length_map] at h2
    rw [List.length_cons]
    omega
set_option maxHeartbeats 8000000 in
theorem S_FormatInts {A : Option Addr} {c : Nat} {l : List Int} (w : World) (h : RS w 1 A l.length c (ints l)) (hv : ∀ x ∈ l, inNum x) (hpos : 0 < l.length) (hlen : l.length ≤ 1000) :
    Calls Tryz.prog 77 #[.slice A l.length c] w fun e w' => e = .returned (str (fmtL l)) ∧ Below w.heap.size w w' := by
  have H0 := Lib.hid h
  have HV := Lib.hid hv
  clear h hv
  have hl0 : ¬ (l.length : Int) = 0 := by omega
  have hlb : ((l.length : Int) == 0) = false := by simpa using hl0
  have HG0 : Hid (Grow (w.alloc (.cells #[] 9)) w.heap.size 9 1 (some ⟨w.heap.size, 0, none⟩) 0 0 []) := Lib.hid (Grow.lit w #[] 0 rfl (Nat.le_refl _) (Nat.zero_le _))
  go_enter Tryz.func77, Tryz.ntmps77
  go_wp2_with fail
  go_loopw [3, 5, 9] (fun o _ i wr => ∃ (k : Nat) (B : Option Addr) (d : Nat), k ≤ l.length ∧ i = .int .i64 k ∧ o = .slice B k d ∧ Grow wr w.heap.size 9 1 B k d (strs ((l.take k).map fmtI)) ∧ Below w.heap.size w wr) (fun _ _ i _ => l.length - (RowKit.intOf i).toNat)
  case atStart => exact ⟨0, _, _, Nat.zero_le _, rfl, rfl, HG0.out, (by repeat (first | (with_reducible exact Below.refl _ _) | (with_reducible assumption) | ((with_reducible refine Below.alloc ?_ ?_ _); rotate_left; (first | omega | (simp <;> omega))) | ((with_reducible refine Below.setCell ?_ ?_ _); rotate_left; (first | omega | (simp <;> omega))) | (with_reducible refine below_drewN ?_ _) | (with_reducible refine Below.drew ?_) | ((with_reducible refine Below.step (by assumption) ?_ ?_); rotate_left; (first | omega | (simp <;> omega)))))⟩
  case round =>
    obtain ⟨k, B, d, hk, rfl, rfl, hg, hb⟩ := hrel
    have HG := Lib.hid hg
    have HB := Lib.hid hb
    have HR := Lib.hid (RS.step hb H0.out)
    have hz := hb.size
    clear hg hb HG0
    by_cases hlt : k < l.length
    · obtain ⟨b, off, rfl, hbh, hcell⟩ := HR.out.open_.2.2 (by omega)
      have c1 : wr.cell? ⟨b, off + k, none⟩ = some (.int .i64 l[k]) := by rw [hcell k (by omega), ints_at hlt]
      have hin := HV.out _ (List.getElem_mem hlt)
      have HS : Hid ((l.take (k + 1)).map fmtI = (l.take k).map fmtI ++ [fmtI l[k]]) := Lib.hid (by rw [List.take_succ_eq_append_getElem hlt, List.map_append]; rfl)
      have i2 : (k : Int) < l.length := by omega
      clear hcell
      generalize hx : l[k] = x at *
      have hem : (fmtI x).isEmpty = false := by
        cases hf : fmtI x with
        | nil => exact absurd hf (fmtI_ne hin)
        | cons => rfl
      have HX := Lib.hid hx
      clear hx hin
      go_wp2_with fail
      refine (S_FormatInt _ _).mono ?_
      rintro e wA ⟨rfl, hbA⟩
      have bA : Below w.heap.size w wA := (by repeat (first | (with_reducible exact Below.refl _ _) | (with_reducible exact HB.out) | (with_reducible assumption) | ((with_reducible refine Below.alloc ?_ ?_ _); rotate_left; (first | omega | (simp <;> omega))) | ((with_reducible refine Below.setCell ?_ ?_ _); rotate_left; (first | omega | (simp <;> omega))) | (with_reducible refine below_drewN ?_ _) | (with_reducible refine Below.drew ?_) | ((with_reducible refine Below.step (by assumption) ?_ ?_); rotate_left; (first | omega | (simp <;> omega)))))
      have zA := hbA.size
      (try simp at zA)
      have HGA : Hid (Grow wA w.heap.size 9 1 B k d (strs ((l.take k).map fmtI))) := Lib.hid (Grow.step hbA (by repeat (first | (with_reducible exact HG.out) | (with_reducible refine Grow.alloc ?_ _) | (with_reducible refine Grow.drewN ?_ _) | (with_reducible refine Grow.drew ?_) | ((with_reducible refine Grow.far ?_ ?_ _); rotate_left; (first | omega | (simp <;> omega))) | (with_reducible refine Grow.step (by assumption) ?_))))
      clear hbA
      go_wp2_with fail
      refine (S_FormatInt _ _).mono ?_
      rintro e wB ⟨rfl, hbB⟩
      have bB : Below w.heap.size w wB := (by repeat (first | (with_reducible exact Below.refl _ _) | (with_reducible assumption) | ((with_reducible refine Below.alloc ?_ ?_ _); rotate_left; (first | omega | (simp <;> omega))) | ((with_reducible refine Below.setCell ?_ ?_ _); rotate_left; (first | omega | (simp <;> omega))) | (with_reducible refine below_drewN ?_ _) | (with_reducible refine Below.drew ?_) | ((with_reducible refine Below.step (by assumption) ?_ ?_); rotate_left; (first | omega | (simp <;> omega)))))
      have zB := hbB.size
      (try simp at zB)
      have HGB : Hid (Grow wB w.heap.size 9 1 B k d (strs ((l.take k).map fmtI))) := Lib.hid (Grow.step hbB (by repeat (first | (with_reducible exact HGA.out) | (with_reducible refine Grow.alloc ?_ _) | (with_reducible refine Grow.drewN ?_ _) | (with_reducible refine Grow.drew ?_) | ((with_reducible refine Grow.far ?_ ?_ _); rotate_left; (first | omega | (simp <;> omega))) | (with_reducible refine Grow.step (by assumption) ?_))))
      clear hbB
      go_wp2_with (at_builtin; refine wpList_app (by rfl) _ _ 85 (by rfl) (w.heap.size) 9 (.string ByteArray.empty) 1 16 Tryz.underlying85 T.infoString rfl (by decide) (xs := strs ((l.take k).map fmtI)) (by rfl) ?_ (ys := strs [fmtI x]) (by rfl) ?_ (strs_one _) ?_ ?_ ?_ ?_; (exact (by repeat (first | (with_reducible exact HGB.out) | (with_reducible refine Grow.alloc ?_ _) | (with_reducible refine Grow.drewN ?_ _) | (with_reducible refine Grow.drew ?_) | ((with_reducible refine Grow.far ?_ ?_ _); rotate_left; (first | omega | (simp <;> omega))) | (with_reducible refine Grow.step (by assumption) ?_)))); (exact (Grow.rs (base := 0) (n := 1) (c := 1) (by repeat (first | (with_reducible refine Grow.drewN ?_ _) | (with_reducible refine Grow.drew ?_) | (refine Grow.lit_at (by simp) (by rfl) (Nat.zero_le _) (by unfold maxLen; omega)))))); (unfold maxLen; omega); (omega); (first | omega | (simp <;> omega)); rintro A' c' w2 gA; have g1 := gA.1; have g2 := gA.2.1; rw [strs_snoc, ← HS.out] at g1; have HG1 := Lib.hid g1; have HB1 : Hid (Below w.heap.size w w2) := Lib.hid (Below.trans (Below.alloc bB (by omega) _) g2); clear gA g1 g2)
      go_roundw
      case rel => exact ⟨k + 1, _, _, by omega, by go_num, rfl, HG1.out, HB1.out⟩
      case measure => simp [RowKit.intOf]; omega
    · obtain rfl : k = l.length := by omega
      have HGL : Hid (Grow wr w.heap.size 9 1 B l.length d (strs (l.map fmtI))) := Lib.hid (by have := HG.out; rw [List.take_length] at this; exact this)
      have hll : (l.map fmtI).length = l.length := List.length_map _
      have HRS : Hid (RS wr 1 B (l.map fmtI).length d (strs (l.map fmtI))) := Lib.hid (by rw [hll]; exact HGL.out.rs)
      have HJL : Hid ((join (l.map fmtI) [44]).length ≤ 140737488355328) := Lib.hid (by have h1 : (join (l.map fmtI) [44]).length ≤ l.length * 12 := fmtL_len l; omega)
      have HJ : Hid (∀ wx, wx = wr → Calls Tryz.prog 44 #[.slice B l.length d, .string ⟨#[44]⟩] wx fun e w' => e = .returned (str (fmtL l)) ∧ Below wx.heap.size wx w') := Lib.hid (fun wx hx => by
        subst hx
        have h0 := (S_Join (sep := [44]) _ HRS.out HJL.out (by decide))
        rw [hll] at h0
        exact h0.mono (fun e w' h => ⟨h.1, by obtain ⟨_, rfl⟩ := h; exact Below.refl _ _⟩))
      clear hll hl0
      have hl0 : ¬ (l.length : Int) = 0 := by omega
      go_wp2_with fail
      refine (HJ.out _ rfl).mono ?_
      rintro e w' ⟨rfl, hb⟩
      go_wp2_with fail
      go_ret
      exact ⟨rfl, Below.step hb HB.out HB.out.size⟩
set_option maxHeartbeats 8000000 in
theorem I_FormatInts {A : Option Addr} {c : Nat} {l : List Int} (w : World) (h : RS w 1 A l.length c (ints l)) (hv : ∀ x ∈ l, inNum x) (hpos : 0 < l.length) (hlen : l.length ≤ 1000) (ht : Tab w) :
    Calls Tryz.prog 87 #[.slice A l.length c] w fun e w' => e = .returned (str (fmtL l)) ∧ Below w.heap.size w w' := by
  have H0 := Lib.hid h
  have HV := Lib.hid hv
  have HT := Lib.hid ht
  clear h hv ht
  have hl0 : ¬ (l.length : Int) = 0 := by omega
  have hlb : ((l.length : Int) == 0) = false := by simpa using hl0
  have HG0 : Hid (Grow (w.alloc (.cells #[] 9)) w.heap.size 9 1 (some ⟨w.heap.size, 0, none⟩) 0 0 []) := Lib.hid (Grow.lit w #[] 0 rfl (Nat.le_refl _) (Nat.zero_le _))
  go_enter Tryz.func87, Tryz.ntmps87
  go_wp2_with fail
  go_loopw [3, 5, 6, 13] (fun o _ _ i wr => ∃ (k : Nat) (B : Option Addr) (d : Nat), k ≤ l.length ∧ i = .int .i64 k ∧ o = .slice B k d ∧ Grow wr w.heap.size 9 1 B k d (strs ((l.take k).map fmtI)) ∧ Below w.heap.size w wr) (fun _ _ _ i _ => l.length - (RowKit.intOf i).toNat)
  case atStart => exact ⟨0, _, _, Nat.zero_le _, rfl, rfl, HG0.out, (by repeat (first | (with_reducible exact Below.refl _ _) | (with_reducible assumption) | ((with_reducible refine Below.alloc ?_ ?_ _); rotate_left; (first | omega | (simp <;> omega))) | ((with_reducible refine Below.setCell ?_ ?_ _); rotate_left; (first | omega | (simp <;> omega))) | (with_reducible refine below_drewN ?_ _) | (with_reducible refine Below.drew ?_) | ((with_reducible refine Below.step (by assumption) ?_ ?_); rotate_left; (first | omega | (simp <;> omega)))))⟩
  case round =>
    obtain ⟨k, B, d, hk, rfl, rfl, hg, hb⟩ := hrel
    have HG := Lib.hid hg
    have HB := Lib.hid hb
    have HR := Lib.hid (RS.step hb H0.out)
    have hz := hb.size
    clear hg hb HG0
    by_cases hlt : k < l.length
    · obtain ⟨b, off, rfl, hbh, hcell⟩ := HR.out.open_.2.2 (by omega)
      have c1 : wr.cell? ⟨b, off + k, none⟩ = some (.int .i64 l[k]) := by rw [hcell k (by omega), ints_at hlt]
      have hin := HV.out _ (List.getElem_mem hlt)
      have HS : Hid ((l.take (k + 1)).map fmtI = (l.take k).map fmtI ++ [fmtI l[k]]) := Lib.hid (by rw [List.take_succ_eq_append_getElem hlt, List.map_append]; rfl)
      have i2 : (k : Int) < l.length := by omega
      clear hcell
      generalize hx : l[k] = x at *
      have hem : (fmtI x).isEmpty = false := by
        cases hf : fmtI x with
        | nil => exact absurd hf (fmtI_ne hin)
        | cons => rfl
      have HX := Lib.hid hx
      clear hx hin
      go_wp2_with fail
      refine (I_FormatInt _ _ (HT.out.step (by first | exact HB.out | exact (by repeat (first | (with_reducible exact Below.refl _ _) | (with_reducible exact HB.out) | (with_reducible assumption) | ((with_reducible refine Below.alloc ?_ ?_ _); rotate_left; (first | omega | (simp <;> omega))) | ((with_reducible refine Below.setCell ?_ ?_ _); rotate_left; (first | omega | (simp <;> omega))) | (with_reducible refine below_drewN ?_ _) | (with_reducible refine Below.drew ?_) | ((with_reducible refine Below.step (by assumption) ?_ ?_); rotate_left; (first | omega | (simp <;> omega)))))))).mono ?_
      rintro e wA ⟨rfl, hbA⟩
      have bA : Below w.heap.size w wA := (by repeat (first | (with_reducible exact Below.refl _ _) | (with_reducible exact HB.out) | (with_reducible assumption) | ((with_reducible refine Below.alloc ?_ ?_ _); rotate_left; (first | omega | (simp <;> omega))) | ((with_reducible refine Below.setCell ?_ ?_ _); rotate_left; (first | omega | (simp <;> omega))) | (with_reducible refine below_drewN ?_ _) | (with_reducible refine Below.drew ?_) | ((with_reducible refine Below.step (by assumption) ?_ ?_); rotate_left; (first | omega | (simp <;> omega)))))
      have zA := hbA.size
      (try simp at zA)
      have HGA : Hid (Grow wA w.heap.size 9 1 B k d (strs ((l.take k).map fmtI))) := Lib.hid (Grow.step hbA (by repeat (first | (with_reducible exact HG.out) | (with_reducible refine Grow.alloc ?_ _) | (with_reducible refine Grow.drewN ?_ _) | (with_reducible refine Grow.drew ?_) | ((with_reducible refine Grow.far ?_ ?_ _); rotate_left; (first | omega | (simp <;> omega))) | (with_reducible refine Grow.step (by assumption) ?_))))
      clear hbA
      go_wp2_with (at_builtin; refine wpList_app (by rfl) _ _ 85 (by rfl) (w.heap.size) 9 (.string ByteArray.empty) 1 16 Tryz.underlying85 T.infoString rfl (by decide) (xs := strs ((l.take k).map fmtI)) (by rfl) ?_ (ys := strs [fmtI x]) (by rfl) ?_ (strs_one _) ?_ ?_ ?_ ?_; (exact (by repeat (first | (with_reducible exact HGA.out) | (with_reducible refine Grow.alloc ?_ _) | (with_reducible refine Grow.drewN ?_ _) | (with_reducible refine Grow.drew ?_) | ((with_reducible refine Grow.far ?_ ?_ _); rotate_left; (first | omega | (simp <;> omega))) | (with_reducible refine Grow.step (by assumption) ?_)))); (exact (Grow.rs (base := 0) (n := 1) (c := 1) (by repeat (first | (with_reducible refine Grow.drewN ?_ _) | (with_reducible refine Grow.drew ?_) | (refine Grow.lit_at (by simp) (by rfl) (Nat.zero_le _) (by unfold maxLen; omega)))))); (unfold maxLen; omega); (omega); (first | omega | (simp <;> omega)); rintro A' c' w2 gA; have g1 := gA.1; have g2 := gA.2.1; rw [strs_snoc, ← HS.out] at g1; have HG1 := Lib.hid g1; have HB1 : Hid (Below w.heap.size w w2) := Lib.hid (Below.trans (Below.alloc bA (by omega) _) g2); clear gA g1 g2)
      go_roundw
      case rel => exact ⟨k + 1, _, _, by omega, by go_num, rfl, HG1.out, HB1.out⟩
      case measure => simp [RowKit.intOf]; omega
    · obtain rfl : k = l.length := by omega
      have HGL : Hid (Grow wr w.heap.size 9 1 B l.length d (strs (l.map fmtI))) := Lib.hid (by have := HG.out; rw [List.take_length] at this; exact this)
      have hll : (l.map fmtI).length = l.length := List.length_map _
      have HRS : Hid (RS wr 1 B (l.map fmtI).length d (strs (l.map fmtI))) := Lib.hid (by rw [hll]; exact HGL.out.rs)
      have HJL : Hid ((join (l.map fmtI) [44]).length ≤ 140737488355328) := Lib.hid (by have h1 : (join (l.map fmtI) [44]).length ≤ l.length * 12 := fmtL_len l; omega)
      have HJ : Hid (∀ wx, wx = wr → Calls Tryz.prog 59 #[.slice B l.length d, .string ⟨#[44]⟩] wx fun e w' => e = .returned (str (fmtL l)) ∧ Below wx.heap.size wx w') := Lib.hid (fun wx hx => by
        subst hx
        have h0 := (I_Join (sep := [44]) _ HRS.out (by omega) (by omega) HJL.out)
        rw [hll] at h0
        exact h0.mono (fun e w' h => h))
      clear hll hl0
      have hl0 : ¬ (l.length : Int) = 0 := by omega
      go_wp2_with fail
      refine (HJ.out _ rfl).mono ?_
      rintro e w' ⟨rfl, hb⟩
      go_wp2_with fail
      go_ret
      exact ⟨rfl, Below.step hb HB.out HB.out.size⟩
end Go.Proofs.YtjipfgadamokaaaGreatDoor
