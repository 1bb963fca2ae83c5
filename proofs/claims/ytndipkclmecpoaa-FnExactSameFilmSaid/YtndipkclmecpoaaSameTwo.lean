/- SameAccum and SameFilm of the reference and of the program. -/
import Derived.Test.YtndipkclmecpoaaSame
namespace Go.Proofs.Ytndipkclmecpoaa
open Go.RowKit
set_option linter.unusedVariables false
def sameAccum (W H : Int) (l : List Int) (p : List Int) (W' H' : Int) (l' : List Int) (p' : List Int) : Bool := decide (W = W') && (decide (H = H') && (decide (l = l') && decide (p = p')))
def sameFilm (W H : Int) (l : List Int) (p : List Bool) (W' H' : Int) (l' : List Int) (p' : List Bool) : Bool := decide (W = W') && (decide (H = H') && (decide (l = l') && decide (p = p')))
set_option maxHeartbeats 1000000 in
theorem I_SameFilm {W H W' H' : Int} {A A' B B' : Option Addr} {c c' d d' : Nat} {l m : List Int} {p q : List Bool} (w : World) (h : RS w 1 A l.length c (ints l)) (hp : RS w 1 B p.length d (bools p)) (h' : RS w 1 A' m.length c' (ints m)) (hq : RS w 1 B' q.length d' (bools q)) :
    Calls Try.prog 23 #[vFilm W H (.slice A l.length c) (.slice B p.length d), vFilm W' H' (.slice A' m.length c') (.slice B' q.length d')] w fun e w' => e = .returned (.bool (sameFilm W H l p W' H' m q)) ∧ Below w.heap.size w w' := by
  by_cases hW : W = W'
  · subst hW
    by_cases hH : H = H'
    · subst hH
      by_cases hl : l = m
      · have he : sameFilm W H l p W H m q = decide (p = q) := by simp [sameFilm, hl]
        have hd : decide (l = m) = true := by simp [hl]
        have HE := Lib.hid he
        clear he hl
        go_enter Try.func23, Try.ntmps23
        go_wp2_with fail
        refine (G_EqualInt _ (by first | (with_reducible assumption) | ((with_reducible refine RS.step ?_ (by assumption)); repeat (first | (with_reducible exact Below.refl _ _) | (with_reducible assumption) | ((with_reducible refine Below.alloc ?_ ?_ _); rotate_left; (first | omega | (simp <;> omega))) | ((with_reducible refine Below.setCell ?_ ?_ _); rotate_left; (first | omega | (simp <;> omega))) | (with_reducible refine below_drewN ?_ _) | (with_reducible refine Below.drew ?_) | ((with_reducible refine Below.step (by assumption) ?_ ?_); rotate_left; (first | omega | (simp <;> omega)))))) (by first | (with_reducible assumption) | ((with_reducible refine RS.step ?_ (by assumption)); repeat (first | (with_reducible exact Below.refl _ _) | (with_reducible assumption) | ((with_reducible refine Below.alloc ?_ ?_ _); rotate_left; (first | omega | (simp <;> omega))) | ((with_reducible refine Below.setCell ?_ ?_ _); rotate_left; (first | omega | (simp <;> omega))) | (with_reducible refine below_drewN ?_ _) | (with_reducible refine Below.drew ?_) | ((with_reducible refine Below.step (by assumption) ?_ ?_); rotate_left; (first | omega | (simp <;> omega))))))).mono ?_
        rintro e w' ⟨rfl, hb⟩; have hz := hb.size; (try simp at hz); have c0 := fun o => hb.cell (p := ⟨w.heap.size, o, none⟩) (by first | omega | (simp <;> omega)); have f0 := fun o => hb.frozen (p := ⟨w.heap.size, o, none⟩) (by first | omega | (simp <;> omega)); have z0 : w.heap.size < w'.heap.size := (by omega); have c1 := fun o => hb.cell (p := ⟨w.heap.size + 1, o, none⟩) (by first | omega | (simp <;> omega)); have f1 := fun o => hb.frozen (p := ⟨w.heap.size + 1, o, none⟩) (by first | omega | (simp <;> omega)); have z1 : w.heap.size + 1 < w'.heap.size := (by omega)
        go_wp2_with fail
        refine (G_EqualBool _ (by first | (with_reducible assumption) | ((with_reducible refine RS.step ?_ (by assumption)); repeat (first | (with_reducible exact Below.refl _ _) | (with_reducible assumption) | ((with_reducible refine Below.alloc ?_ ?_ _); rotate_left; (first | omega | (simp <;> omega))) | ((with_reducible refine Below.setCell ?_ ?_ _); rotate_left; (first | omega | (simp <;> omega))) | (with_reducible refine below_drewN ?_ _) | (with_reducible refine Below.drew ?_) | ((with_reducible refine Below.step (by assumption) ?_ ?_); rotate_left; (first | omega | (simp <;> omega)))))) (by first | (with_reducible assumption) | ((with_reducible refine RS.step ?_ (by assumption)); repeat (first | (with_reducible exact Below.refl _ _) | (with_reducible assumption) | ((with_reducible refine Below.alloc ?_ ?_ _); rotate_left; (first | omega | (simp <;> omega))) | ((with_reducible refine Below.setCell ?_ ?_ _); rotate_left; (first | omega | (simp <;> omega))) | (with_reducible refine below_drewN ?_ _) | (with_reducible refine Below.drew ?_) | ((with_reducible refine Below.step (by assumption) ?_ ?_); rotate_left; (first | omega | (simp <;> omega))))))).mono ?_
        rintro e w' ⟨rfl, hb⟩; have hz := hb.size; (try simp at hz); have c0 := fun o => hb.cell (p := ⟨w.heap.size, o, none⟩) (by first | omega | (simp <;> omega)); have f0 := fun o => hb.frozen (p := ⟨w.heap.size, o, none⟩) (by first | omega | (simp <;> omega)); have z0 : w.heap.size < w'.heap.size := (by omega); have c1 := fun o => hb.cell (p := ⟨w.heap.size + 1, o, none⟩) (by first | omega | (simp <;> omega)); have f1 := fun o => hb.frozen (p := ⟨w.heap.size + 1, o, none⟩) (by first | omega | (simp <;> omega)); have z1 : w.heap.size + 1 < w'.heap.size := (by omega)
        go_wp2
        go_ret
        exact ⟨ret_bool HE.out.symm, (by repeat (first | (with_reducible exact Below.refl _ _) | (with_reducible assumption) | ((with_reducible refine Below.alloc ?_ ?_ _); rotate_left; (first | omega | (simp <;> omega))) | ((with_reducible refine Below.setCell ?_ ?_ _); rotate_left; (first | omega | (simp <;> omega))) | (with_reducible refine below_drewN ?_ _) | (with_reducible refine Below.drew ?_) | ((with_reducible refine Below.step (by assumption) ?_ ?_); rotate_left; (first | omega | (simp <;> omega)))))⟩
      · have he : sameFilm W H l p W H m q = false := by simp [sameFilm, hl]
        have hd : decide (l = m) = false := by simp [hl]
        have HE := Lib.hid he
        clear he hl
        go_enter Try.func23, Try.ntmps23
        go_wp2_with fail
        refine (G_EqualInt _ (by first | (with_reducible assumption) | ((with_reducible refine RS.step ?_ (by assumption)); repeat (first | (with_reducible exact Below.refl _ _) | (with_reducible assumption) | ((with_reducible refine Below.alloc ?_ ?_ _); rotate_left; (first | omega | (simp <;> omega))) | ((with_reducible refine Below.setCell ?_ ?_ _); rotate_left; (first | omega | (simp <;> omega))) | (with_reducible refine below_drewN ?_ _) | (with_reducible refine Below.drew ?_) | ((with_reducible refine Below.step (by assumption) ?_ ?_); rotate_left; (first | omega | (simp <;> omega)))))) (by first | (with_reducible assumption) | ((with_reducible refine RS.step ?_ (by assumption)); repeat (first | (with_reducible exact Below.refl _ _) | (with_reducible assumption) | ((with_reducible refine Below.alloc ?_ ?_ _); rotate_left; (first | omega | (simp <;> omega))) | ((with_reducible refine Below.setCell ?_ ?_ _); rotate_left; (first | omega | (simp <;> omega))) | (with_reducible refine below_drewN ?_ _) | (with_reducible refine Below.drew ?_) | ((with_reducible refine Below.step (by assumption) ?_ ?_); rotate_left; (first | omega | (simp <;> omega))))))).mono ?_
        rintro e w' ⟨rfl, hb⟩; have hz := hb.size; (try simp at hz); have c0 := fun o => hb.cell (p := ⟨w.heap.size, o, none⟩) (by first | omega | (simp <;> omega)); have f0 := fun o => hb.frozen (p := ⟨w.heap.size, o, none⟩) (by first | omega | (simp <;> omega)); have z0 : w.heap.size < w'.heap.size := (by omega); have c1 := fun o => hb.cell (p := ⟨w.heap.size + 1, o, none⟩) (by first | omega | (simp <;> omega)); have f1 := fun o => hb.frozen (p := ⟨w.heap.size + 1, o, none⟩) (by first | omega | (simp <;> omega)); have z1 : w.heap.size + 1 < w'.heap.size := (by omega)
        go_wp2
        go_ret
        exact ⟨ret_bool HE.out.symm, (by repeat (first | (with_reducible exact Below.refl _ _) | (with_reducible assumption) | ((with_reducible refine Below.alloc ?_ ?_ _); rotate_left; (first | omega | (simp <;> omega))) | ((with_reducible refine Below.setCell ?_ ?_ _); rotate_left; (first | omega | (simp <;> omega))) | (with_reducible refine below_drewN ?_ _) | (with_reducible refine Below.drew ?_) | ((with_reducible refine Below.step (by assumption) ?_ ?_); rotate_left; (first | omega | (simp <;> omega)))))⟩
    · have he : sameFilm W H l p W H' m q = false := by simp [sameFilm, hH]
      have hH' : (H == H') = false := by simp [hH]
      have HE := Lib.hid he
      clear he hH
      go_enter Try.func23, Try.ntmps23
      go_wp2
      go_ret
      exact ⟨ret_bool HE.out.symm, (by repeat (first | (with_reducible exact Below.refl _ _) | (with_reducible assumption) | ((with_reducible refine Below.alloc ?_ ?_ _); rotate_left; (first | omega | (simp <;> omega))) | ((with_reducible refine Below.setCell ?_ ?_ _); rotate_left; (first | omega | (simp <;> omega))) | (with_reducible refine below_drewN ?_ _) | (with_reducible refine Below.drew ?_) | ((with_reducible refine Below.step (by assumption) ?_ ?_); rotate_left; (first | omega | (simp <;> omega)))))⟩
  · have he : sameFilm W H l p W' H' m q = false := by simp [sameFilm, hW]
    have hW' : (W == W') = false := by simp [hW]
    have HE := Lib.hid he
    clear he hW
    go_enter Try.func23, Try.ntmps23
    go_wp2
    go_ret
    exact ⟨ret_bool HE.out.symm, (by repeat (first | (with_reducible exact Below.refl _ _) | (with_reducible assumption) | ((with_reducible refine Below.alloc ?_ ?_ _); rotate_left; (first | omega | (simp <;> omega))) | ((with_reducible refine Below.setCell ?_ ?_ _); rotate_left; (first | omega | (simp <;> omega))) | (with_reducible refine below_drewN ?_ _) | (with_reducible refine Below.drew ?_) | ((with_reducible refine Below.step (by assumption) ?_ ?_); rotate_left; (first | omega | (simp <;> omega)))))⟩
set_option maxHeartbeats 2000000 in
theorem S_SameFilm {W H W' H' : Int} {A A' B B' : Option Addr} {c c' d d' : Nat} {l m : List Int} {p q : List Bool} (w : World) (h : RS w 1 A l.length c (ints l)) (hp : RS w 1 B p.length d (bools p)) (h' : RS w 1 A' m.length c' (ints m)) (hq : RS w 1 B' q.length d' (bools q)) :
    Calls Try.prog 21 #[vFilm W H (.slice A l.length c) (.slice B p.length d), vFilm W' H' (.slice A' m.length c') (.slice B' q.length d')] w fun e w' => e = .returned (.bool (sameFilm W H l p W' H' m q)) ∧ Below w.heap.size w w' := by
  have hn := h.len
  have hn' := h'.len
  have hn2 := hp.len
  have hn2' := hq.len
  unfold maxLen at hn hn' hn2 hn2'
  obtain ⟨_, _, hr⟩ := h.open_
  obtain ⟨_, _, hr'⟩ := h'.open_
  obtain ⟨_, _, hr2⟩ := hp.open_
  obtain ⟨_, _, hr2'⟩ := hq.open_
  have HR := Lib.hid hr
  have HR' := Lib.hid hr'
  have HR2 := Lib.hid hr2
  have HR2' := Lib.hid hr2'
  clear h h' hp hq hr hr' hr2 hr2'
  have hdiff : (¬ (W = W') ∨ ¬ (H = H') ∨ ¬ (l.length = m.length) ∨ ¬ (p.length = q.length) ∨ ¬ (l = m) ∨ ¬ (p = q)) → sameFilm W H l p W' H' m q = false := by
    intro hd
    unfold sameFilm
    by_cases h1 : W = W'
    · by_cases h2 : H = H'
      · by_cases h3 : l = m
        · have h4 : ¬ p = q := by intro e; subst e; subst h3; simp_all
          simp [h4]
        · simp [h3]
      · simp [h2]
    · simp [h1]
  have HD := Lib.hid hdiff
  clear hdiff
  by_cases hW : W = W'
  case neg =>
    have e2 : (W != W') = true := by simp [hW]
    have HF := Lib.hid (HD.out (.inl hW))
    clear hW
    go_enter Try.func21, Try.ntmps21
    go_wp2
    go_ret
    exact ⟨ret_bool HF.out.symm, (by repeat (first | (with_reducible exact Below.refl _ _) | (with_reducible assumption) | ((with_reducible refine Below.alloc ?_ ?_ _); rotate_left; (first | omega | (simp <;> omega))) | ((with_reducible refine Below.setCell ?_ ?_ _); rotate_left; (first | omega | (simp <;> omega))) | (with_reducible refine below_drewN ?_ _) | (with_reducible refine Below.drew ?_) | ((with_reducible refine Below.step (by assumption) ?_ ?_); rotate_left; (first | omega | (simp <;> omega)))))⟩
  by_cases hH : H = H'
  case neg =>
    have e2 : (H != H') = true := by simp [hH]
    have HF := Lib.hid (HD.out (.inr (.inl hH)))
    subst hW
    clear hH
    go_enter Try.func21, Try.ntmps21
    go_wp2
    go_ret
    exact ⟨ret_bool HF.out.symm, (by repeat (first | (with_reducible exact Below.refl _ _) | (with_reducible assumption) | ((with_reducible refine Below.alloc ?_ ?_ _); rotate_left; (first | omega | (simp <;> omega))) | ((with_reducible refine Below.setCell ?_ ?_ _); rotate_left; (first | omega | (simp <;> omega))) | (with_reducible refine below_drewN ?_ _) | (with_reducible refine Below.drew ?_) | ((with_reducible refine Below.step (by assumption) ?_ ?_); rotate_left; (first | omega | (simp <;> omega)))))⟩
  subst hW; subst hH
  by_cases hl : l.length = m.length
  case neg =>
    have e2 : ((l.length : Int) != (m.length : Int)) = true := by simp; omega
    have HF := Lib.hid (HD.out (.inr (.inr (.inl hl))))
    clear hl
    go_enter Try.func21, Try.ntmps21
    go_wp2
    go_ret
    exact ⟨ret_bool HF.out.symm, (by repeat (first | (with_reducible exact Below.refl _ _) | (with_reducible assumption) | ((with_reducible refine Below.alloc ?_ ?_ _); rotate_left; (first | omega | (simp <;> omega))) | ((with_reducible refine Below.setCell ?_ ?_ _); rotate_left; (first | omega | (simp <;> omega))) | (with_reducible refine below_drewN ?_ _) | (with_reducible refine Below.drew ?_) | ((with_reducible refine Below.step (by assumption) ?_ ?_); rotate_left; (first | omega | (simp <;> omega)))))⟩
  have e2 : ((l.length : Int) != (m.length : Int)) = false := by simp; omega
  have HL := Lib.hid hl
  clear hl
  by_cases hl2 : p.length = q.length
  case neg =>
    have e3 : ((p.length : Int) != (q.length : Int)) = true := by simp; omega
    have HF := Lib.hid (HD.out (.inr (.inr (.inr (.inl hl2)))))
    clear hl2
    go_enter Try.func21, Try.ntmps21
    go_wp2
    go_ret
    exact ⟨ret_bool HF.out.symm, (by repeat (first | (with_reducible exact Below.refl _ _) | (with_reducible assumption) | ((with_reducible refine Below.alloc ?_ ?_ _); rotate_left; (first | omega | (simp <;> omega))) | ((with_reducible refine Below.setCell ?_ ?_ _); rotate_left; (first | omega | (simp <;> omega))) | (with_reducible refine below_drewN ?_ _) | (with_reducible refine Below.drew ?_) | ((with_reducible refine Below.step (by assumption) ?_ ?_); rotate_left; (first | omega | (simp <;> omega)))))⟩
  have e3 : ((p.length : Int) != (q.length : Int)) = false := by simp; omega
  have HL2 := Lib.hid hl2
  clear hl2
  go_enter Try.func21, Try.ntmps21
  go_wp2
  go_loop [5, 6, 42] (fun _ _ i => ∃ k : Nat, k ≤ l.length ∧ i = .int .i64 k ∧ SameTo l m k) (fun _ _ i => l.length - (intOf i).toNat)
  case atStart => exact ⟨0, Nat.zero_le _, rfl, rfl⟩
  case round =>
    obtain ⟨k, hk, rfl, hst⟩ := hrel
    have HS := Lib.hid hst
    clear hst
    by_cases hlt : k < l.length
    · have hltm : k < m.length := by have := HL.out; omega
      obtain ⟨b, o, rfl, hbh, hcell⟩ := HR.out (by omega)
      obtain ⟨b', o', rfl, hbh', hcell'⟩ := HR'.out (by omega)
      have c1 : w.cell? ⟨b, o + k, none⟩ = some (.int .i64 l[k]) := by rw [hcell k (by omega), ints_at hlt]
      have c2 : w.cell? ⟨b', o' + k, none⟩ = some (.int .i64 m[k]) := by rw [hcell' k (by omega), ints_at hltm]
      clear hcell hcell'
      by_cases he : l[k] = m[k]
      · have ht : (l[k] != m[k]) = false := by simp [he]
        have HE := Lib.hid he
        clear he
        go_wp2
        go_round
        case rel => exact ⟨k + 1, by omega, by go_num, HS.out.succ hlt hltm HE.out⟩
        case measure => simp [intOf]; omega
      · have ht : (l[k] != m[k]) = true := by simp [he]
        have HF := Lib.hid (HD.out (.inr (.inr (.inr (.inr (.inl (by intro e; subst e; exact he rfl)))))))
        clear he
        go_wp2
        go_ret
        exact ⟨ret_bool HF.out.symm, (by repeat (first | (with_reducible exact Below.refl _ _) | (with_reducible assumption) | ((with_reducible refine Below.alloc ?_ ?_ _); rotate_left; (first | omega | (simp <;> omega))) | ((with_reducible refine Below.setCell ?_ ?_ _); rotate_left; (first | omega | (simp <;> omega))) | (with_reducible refine below_drewN ?_ _) | (with_reducible refine Below.drew ?_) | ((with_reducible refine Below.step (by assumption) ?_ ?_); rotate_left; (first | omega | (simp <;> omega)))))⟩
    · have HM : Hid (l = m) := by
        obtain rfl : k = l.length := by omega
        exact HS.out.whole HL.out
      clear HS
      go_wp2
      go_loop [7, 8, 58] (fun _ _ i => ∃ k : Nat, k ≤ p.length ∧ i = .int .i64 k ∧ SameToB p q k) (fun _ _ i => p.length - (intOf i).toNat)
      case atStart => exact ⟨0, Nat.zero_le _, rfl, rfl⟩
      case round =>
        obtain ⟨n, hn, rfl, hst⟩ := hrel
        have HS := Lib.hid hst
        clear hst
        by_cases hlt : n < p.length
        · have hltm : n < q.length := by have := HL2.out; omega
          obtain ⟨b, o, rfl, hbh, hcell⟩ := HR2.out (by omega)
          obtain ⟨b', o', rfl, hbh', hcell'⟩ := HR2'.out (by omega)
          have c1 : w.cell? ⟨b, o + n, none⟩ = some (.bool p[n]) := by rw [hcell n (by omega), bools_at hlt]
          have c2 : w.cell? ⟨b', o' + n, none⟩ = some (.bool q[n]) := by rw [hcell' n (by omega), bools_at hltm]
          clear hcell hcell'
          have HE : Hid (p[n] = q[n] → SameToB p q (n + 1)) := fun he => HS.out.succ hlt hltm he
          have HF : Hid (¬ p[n] = q[n] → sameFilm W H l p W H m q = false) := fun he => HD.out (.inr (.inr (.inr (.inr (.inr (by intro e; subst e; exact he rfl))))))
          clear HS
          generalize p[n] = x at *
          generalize q[n] = y at *
          cases x <;> cases y
          case false.false | true.true =>
            have HS := Lib.hid (HE.out rfl)
            go_wp2
            go_round
            case rel => exact ⟨n + 1, by omega, by go_num, HS.out⟩
            case measure => simp [intOf]; omega
          case false.true | true.false =>
            have HG := Lib.hid (HF.out (by simp))
            go_wp2
            go_ret
            exact ⟨ret_bool HG.out.symm, (by repeat (first | (with_reducible exact Below.refl _ _) | (with_reducible assumption) | ((with_reducible refine Below.alloc ?_ ?_ _); rotate_left; (first | omega | (simp <;> omega))) | ((with_reducible refine Below.setCell ?_ ?_ _); rotate_left; (first | omega | (simp <;> omega))) | (with_reducible refine below_drewN ?_ _) | (with_reducible refine Below.drew ?_) | ((with_reducible refine Below.step (by assumption) ?_ ?_); rotate_left; (first | omega | (simp <;> omega)))))⟩
        · have hf : sameFilm W H l p W H m q = true := by
            have h2 : p = q := by
              obtain rfl : n = p.length := by omega
              exact HS.out.whole HL2.out
            have h1 : l = m := HM.out
            simp [sameFilm, h1, h2]
          have HF := Lib.hid hf
          clear hf
          go_wp2
          go_ret
          exact ⟨ret_bool HF.out.symm, (by repeat (first | (with_reducible exact Below.refl _ _) | (with_reducible assumption) | ((with_reducible refine Below.alloc ?_ ?_ _); rotate_left; (first | omega | (simp <;> omega))) | ((with_reducible refine Below.setCell ?_ ?_ _); rotate_left; (first | omega | (simp <;> omega))) | (with_reducible refine below_drewN ?_ _) | (with_reducible refine Below.drew ?_) | ((with_reducible refine Below.step (by assumption) ?_ ?_); rotate_left; (first | omega | (simp <;> omega)))))⟩
end Go.Proofs.Ytndipkclmecpoaa
