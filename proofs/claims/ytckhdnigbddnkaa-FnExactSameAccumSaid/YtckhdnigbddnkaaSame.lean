/- slices.Equal on ints and bools; SameImage, SameAccum, SameFilm of the reference and of the program. -/
import Derived.Test.YtckhdnigbddnkaaRecs
namespace Go.Proofs.Ytckhdnigbddnkaa
open Go.RowKit
set_option linter.unusedVariables false
set_option maxHeartbeats 400000 in
theorem G_EqualInt {A A' : Option Addr} {c c' : Nat} {l m : List Int} (w : World) (h : RS w 1 A l.length c (ints l)) (h' : RS w 1 A' m.length c' (ints m)) :
    Calls Try.prog 66 #[.slice A l.length c, .slice A' m.length c'] w fun e w' => e = .returned (.bool (decide (l = m))) ∧ Below w.heap.size w w' := by
  obtain ⟨hn, hc, hr⟩ := h.open_
  obtain ⟨hn', hc', hr'⟩ := h'.open_
  unfold maxLen at hc hc'
  clear h h'
  by_cases hlen : l.length = m.length
  case neg =>
    have e1 : decide (l = m) = false := by simp; intro e; exact hlen (by rw [e])
    have e2 : ((l.length : Int) != (m.length : Int)) = true := by simp; omega
    have HE := Lib.hid e1
    clear e1 hr hr'
    go_enter Try.func66, Try.ntmps66
    go_wp2
    go_ret
    exact ⟨ret_bool HE.out.symm, Below.refl _ _⟩
  case pos =>
    have e2 : ((l.length : Int) != (m.length : Int)) = false := by simp; omega
    have HL := Lib.hid hlen
    have HR := Lib.hid hr
    have HR' := Lib.hid hr'
    have hB0 := Below.refl w.heap.size w
    clear hlen hr hr'
    go_enter Try.func66, Try.ntmps66
    go_wp2
    go_loopw [5, 13] (fun _ i wr => ∃ k : Nat, k ≤ l.length ∧ i = .int .i64 k ∧ SameTo l m k ∧ Below w.heap.size w wr) (fun _ i _ => l.length - (intOf i).toNat)
    case atStart => exact ⟨0, Nat.zero_le _, rfl, rfl, hB0⟩
    case round =>
      obtain ⟨k, hk, rfl, hst, hb⟩ := hrel
      have HB := Lib.hid hb
      clear hb hB0
      by_cases hlt : k < l.length
      · have hltm : k < m.length := by have := HL.out; omega
        obtain ⟨b, o, rfl, hbh, hcell⟩ := HR.out (by omega)
        obtain ⟨b', o', rfl, hbh', hcell'⟩ := HR'.out (by omega)
        have c1 : wr.cell? ⟨b, o + k, none⟩ = some (.int .i64 l[k]) := by
          rw [(bcell HB.out).1 _ _ (by omega), hcell k (by omega), ints_at hlt]
        have c2 : wr.cell? ⟨b', o' + k, none⟩ = some (.int .i64 m[k]) := by
          rw [(bcell HB.out).1 _ _ (by omega), hcell' k (by omega), ints_at hltm]
        clear hcell hcell'
        have b0 : (0 : Int) ≤ k := by omega
        have b1 : (k : Int) < l.length := by omega
        have b2 : (k : Int) < m.length := by omega
        by_cases he : l[k] = m[k]
        · have ht : (l[k] != m[k]) = false := by simp [he]
          have HE := Lib.hid he
          clear he
          go_wp2
          go_quiet (fail)
          go_wp2
          go_roundw
          case rel => exact ⟨k + 1, by omega, by go_num, hst.succ hlt hltm HE.out, below_drewN HB.out _⟩
          case measure => simp [intOf]; omega
        · have ht : (l[k] != m[k]) = true := by simp [he]
          have hf : decide (l = m) = false := by simp; intro e; subst e; exact he rfl
          have HF := Lib.hid hf
          clear he hf
          go_wp2
          go_quiet (fail)
          go_wp2
          go_ret
          exact ⟨ret_bool HF.out.symm, below_drewN HB.out _⟩
      · have hf : decide (l = m) = true := by
          simp
          obtain rfl : k = l.length := by omega
          exact hst.whole HL.out
        have HF := Lib.hid hf
        clear hf
        go_wp2
        go_ret
        exact ⟨ret_bool HF.out.symm, HB.out⟩
def sameImg (W H : Int) (l : List Int) (W' H' : Int) (l' : List Int) : Bool := decide (W = W') && (decide (H = H') && decide (l = l'))
set_option maxHeartbeats 400000 in
theorem I_SameImage {W H W' H' : Int} {A A' : Option Addr} {c c' : Nat} {l m : List Int} (w : World) (h : RS w 1 A l.length c (ints l)) (h' : RS w 1 A' m.length c' (ints m)) :
    Calls Try.prog 33 #[vImage W H (.slice A l.length c), vImage W' H' (.slice A' m.length c')] w fun e w' => e = .returned (.bool (sameImg W H l W' H' m)) ∧ Below w.heap.size w w' := by
  by_cases hW : W = W'
  · subst hW
    by_cases hH : H = H'
    · subst hH
      have he : sameImg W H l W H m = decide (l = m) := by simp [sameImg]
      have HE := Lib.hid he
      clear he
      go_enter Try.func33, Try.ntmps33
      go_wp2_with (go_at_call 66; refine (G_EqualInt _ (by first | (with_reducible assumption) | ((with_reducible refine RS.step ?_ (by assumption)); repeat (first | (with_reducible exact Below.refl _ _) | (with_reducible assumption) | ((with_reducible refine Below.alloc ?_ ?_ _); rotate_left; (first | omega | (simp <;> omega))) | ((with_reducible refine Below.setCell ?_ ?_ _); rotate_left; (first | omega | (simp <;> omega))) | (with_reducible refine below_drewN ?_ _) | (with_reducible refine Below.drew ?_) | ((with_reducible refine Below.step (by assumption) ?_ ?_); rotate_left; (first | omega | (simp <;> omega)))))) (by first | (with_reducible assumption) | ((with_reducible refine RS.step ?_ (by assumption)); repeat (first | (with_reducible exact Below.refl _ _) | (with_reducible assumption) | ((with_reducible refine Below.alloc ?_ ?_ _); rotate_left; (first | omega | (simp <;> omega))) | ((with_reducible refine Below.setCell ?_ ?_ _); rotate_left; (first | omega | (simp <;> omega))) | (with_reducible refine below_drewN ?_ _) | (with_reducible refine Below.drew ?_) | ((with_reducible refine Below.step (by assumption) ?_ ?_); rotate_left; (first | omega | (simp <;> omega))))))).mono ?_; rintro e w' ⟨rfl, hb⟩; have hz := hb.size; (try simp at hz); have c0 := fun o => hb.cell (p := ⟨w.heap.size, o, none⟩) (by first | omega | (simp <;> omega)); have f0 := fun o => hb.frozen (p := ⟨w.heap.size, o, none⟩) (by first | omega | (simp <;> omega)); have z0 : w.heap.size < w'.heap.size := (by omega); have c1 := fun o => hb.cell (p := ⟨w.heap.size + 1, o, none⟩) (by first | omega | (simp <;> omega)); have f1 := fun o => hb.frozen (p := ⟨w.heap.size + 1, o, none⟩) (by first | omega | (simp <;> omega)); have z1 : w.heap.size + 1 < w'.heap.size := (by omega))
      go_ret
      exact ⟨ret_bool HE.out.symm, (by repeat (first | (with_reducible exact Below.refl _ _) | (with_reducible assumption) | ((with_reducible refine Below.alloc ?_ ?_ _); rotate_left; (first | omega | (simp <;> omega))) | ((with_reducible refine Below.setCell ?_ ?_ _); rotate_left; (first | omega | (simp <;> omega))) | (with_reducible refine below_drewN ?_ _) | (with_reducible refine Below.drew ?_) | ((with_reducible refine Below.step (by assumption) ?_ ?_); rotate_left; (first | omega | (simp <;> omega)))))⟩
    · have he : sameImg W H l W H' m = false := by simp [sameImg, hH]
      have hH' : (H == H') = false := by simp [hH]
      have HE := Lib.hid he
      clear he hH
      go_enter Try.func33, Try.ntmps33
      go_wp2
      go_ret
      exact ⟨ret_bool HE.out.symm, (by repeat (first | (with_reducible exact Below.refl _ _) | (with_reducible assumption) | ((with_reducible refine Below.alloc ?_ ?_ _); rotate_left; (first | omega | (simp <;> omega))) | ((with_reducible refine Below.setCell ?_ ?_ _); rotate_left; (first | omega | (simp <;> omega))) | (with_reducible refine below_drewN ?_ _) | (with_reducible refine Below.drew ?_) | ((with_reducible refine Below.step (by assumption) ?_ ?_); rotate_left; (first | omega | (simp <;> omega)))))⟩
  · have he : sameImg W H l W' H' m = false := by simp [sameImg, hW]
    have hW' : (W == W') = false := by simp [hW]
    have HE := Lib.hid he
    clear he hW
    go_enter Try.func33, Try.ntmps33
    go_wp2
    go_ret
    exact ⟨ret_bool HE.out.symm, (by repeat (first | (with_reducible exact Below.refl _ _) | (with_reducible assumption) | ((with_reducible refine Below.alloc ?_ ?_ _); rotate_left; (first | omega | (simp <;> omega))) | ((with_reducible refine Below.setCell ?_ ?_ _); rotate_left; (first | omega | (simp <;> omega))) | (with_reducible refine below_drewN ?_ _) | (with_reducible refine Below.drew ?_) | ((with_reducible refine Below.step (by assumption) ?_ ?_); rotate_left; (first | omega | (simp <;> omega)))))⟩
set_option maxHeartbeats 1000000 in
theorem S_SameImage {W H W' H' : Int} {A A' : Option Addr} {c c' : Nat} {l m : List Int} (w : World) (h : RS w 1 A l.length c (ints l)) (h' : RS w 1 A' m.length c' (ints m)) :
    Calls Try.prog 32 #[vImage W H (.slice A l.length c), vImage W' H' (.slice A' m.length c')] w fun e w' => e = .returned (.bool (sameImg W H l W' H' m)) ∧ Below w.heap.size w w' := by
  have hn := h.len
  have hn' := h'.len
  unfold maxLen at hn hn'
  obtain ⟨_, _, hr⟩ := h.open_
  obtain ⟨_, _, hr'⟩ := h'.open_
  have HR := Lib.hid hr
  have HR' := Lib.hid hr'
  clear h h' hr hr'
  have hdiff : (¬ (W = W') ∨ ¬ (H = H') ∨ ¬ (l.length = m.length)) → sameImg W H l W' H' m = false := by
    intro hd
    unfold sameImg
    by_cases h1 : W = W'
    · by_cases h2 : H = H'
      · have h3 : ¬ l = m := by intro e; subst e; simp_all
        simp [h3]
      · simp [h2]
    · simp [h1]
  have HD := Lib.hid hdiff
  clear hdiff
  by_cases hW : W = W'
  · by_cases hH : H = H'
    · subst hW; subst hH
      by_cases hl : l.length = m.length
      · have e2 : ((l.length : Int) != (m.length : Int)) = false := by simp; omega
        have HL := Lib.hid hl
        clear hl
        go_enter Try.func32, Try.ntmps32
        go_wp2
        go_loop [5, 6, 31] (fun _ _ i => ∃ k : Nat, k ≤ l.length ∧ i = .int .i64 k ∧ SameTo l m k) (fun _ _ i => l.length - (intOf i).toNat)
        case atStart => exact ⟨0, Nat.zero_le _, rfl, rfl⟩
        case round =>
          obtain ⟨k, hk, rfl, hst⟩ := hrel
          have HS := Lib.hid hst
          clear hst
          by_cases hlt : k < l.length
          · have hltm : k < m.length := by have := HL.out; omega
            obtain ⟨b, o, rfl, hbh, hcell⟩ := HR.out (by omega)
            obtain ⟨b', o', rfl, hbh', hcell'⟩ := HR'.out (by omega)
            have c1 : w.cell? ⟨b, o + k, none⟩ = some (.int .i64 l[k]) := by rw [hcell k (by omega), ints_at hlt]
            have c2 : w.cell? ⟨b', o' + k, none⟩ = some (.int .i64 m[k]) := by rw [hcell' k (by omega), ints_at hltm]
            clear hcell hcell'
            by_cases he : l[k] = m[k]
            · have ht : (l[k] != m[k]) = false := by simp [he]
              have HE := Lib.hid he
              clear he
              go_wp2
              go_round
              case rel => exact ⟨k + 1, by omega, by go_num, HS.out.succ hlt hltm HE.out⟩
              case measure => simp [intOf]; omega
            · have ht : (l[k] != m[k]) = true := by simp [he]
              have hf : sameImg W H l W H m = false := by unfold sameImg; have : ¬ l = m := by { intro e; subst e; exact he rfl }; simp [this]
              have HF := Lib.hid hf
              clear he hf
              go_wp2
              go_ret
              exact ⟨ret_bool HF.out.symm, (by repeat (first | (with_reducible exact Below.refl _ _) | (with_reducible assumption) | ((with_reducible refine Below.alloc ?_ ?_ _); rotate_left; (first | omega | (simp <;> omega))) | ((with_reducible refine Below.setCell ?_ ?_ _); rotate_left; (first | omega | (simp <;> omega))) | (with_reducible refine below_drewN ?_ _) | (with_reducible refine Below.drew ?_) | ((with_reducible refine Below.step (by assumption) ?_ ?_); rotate_left; (first | omega | (simp <;> omega)))))⟩
          · have hf : sameImg W H l W H m = true := by
              have : l = m := by
                obtain rfl : k = l.length := by omega
                exact HS.out.whole HL.out
              simp [sameImg, this]
            have HF := Lib.hid hf
            clear hf
            go_wp2
            go_ret
            exact ⟨ret_bool HF.out.symm, (by repeat (first | (with_reducible exact Below.refl _ _) | (with_reducible assumption) | ((with_reducible refine Below.alloc ?_ ?_ _); rotate_left; (first | omega | (simp <;> omega))) | ((with_reducible refine Below.setCell ?_ ?_ _); rotate_left; (first | omega | (simp <;> omega))) | (with_reducible refine below_drewN ?_ _) | (with_reducible refine Below.drew ?_) | ((with_reducible refine Below.step (by assumption) ?_ ?_); rotate_left; (first | omega | (simp <;> omega)))))⟩
      · have e2 : ((l.length : Int) != (m.length : Int)) = true := by simp; omega
        have HF := Lib.hid (HD.out (.inr (.inr hl)))
        clear hl
        go_enter Try.func32, Try.ntmps32
        go_wp2
        go_ret
        exact ⟨ret_bool HF.out.symm, (by repeat (first | (with_reducible exact Below.refl _ _) | (with_reducible assumption) | ((with_reducible refine Below.alloc ?_ ?_ _); rotate_left; (first | omega | (simp <;> omega))) | ((with_reducible refine Below.setCell ?_ ?_ _); rotate_left; (first | omega | (simp <;> omega))) | (with_reducible refine below_drewN ?_ _) | (with_reducible refine Below.drew ?_) | ((with_reducible refine Below.step (by assumption) ?_ ?_); rotate_left; (first | omega | (simp <;> omega)))))⟩
    · have e2 : (H != H') = true := by simp [hH]
      have HF := Lib.hid (HD.out (.inr (.inl hH)))
      subst hW
      clear hH
      go_enter Try.func32, Try.ntmps32
      go_wp2
      go_ret
      exact ⟨ret_bool HF.out.symm, (by repeat (first | (with_reducible exact Below.refl _ _) | (with_reducible assumption) | ((with_reducible refine Below.alloc ?_ ?_ _); rotate_left; (first | omega | (simp <;> omega))) | ((with_reducible refine Below.setCell ?_ ?_ _); rotate_left; (first | omega | (simp <;> omega))) | (with_reducible refine below_drewN ?_ _) | (with_reducible refine Below.drew ?_) | ((with_reducible refine Below.step (by assumption) ?_ ?_); rotate_left; (first | omega | (simp <;> omega)))))⟩
  · have e2 : (W != W') = true := by simp [hW]
    have HF := Lib.hid (HD.out (.inl hW))
    clear hW
    go_enter Try.func32, Try.ntmps32
    go_wp2
    go_ret
    exact ⟨ret_bool HF.out.symm, (by repeat (first | (with_reducible exact Below.refl _ _) | (with_reducible assumption) | ((with_reducible refine Below.alloc ?_ ?_ _); rotate_left; (first | omega | (simp <;> omega))) | ((with_reducible refine Below.setCell ?_ ?_ _); rotate_left; (first | omega | (simp <;> omega))) | (with_reducible refine below_drewN ?_ _) | (with_reducible refine Below.drew ?_) | ((with_reducible refine Below.step (by assumption) ?_ ?_); rotate_left; (first | omega | (simp <;> omega)))))⟩
end Go.Proofs.Ytckhdnigbddnkaa
