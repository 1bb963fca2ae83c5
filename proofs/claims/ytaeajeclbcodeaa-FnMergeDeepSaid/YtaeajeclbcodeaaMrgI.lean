/- MergeDeep of the program. -/
import Derived.Test.YtaeajeclbcodeaaMrgG
import Derived.Test.YtaeajeclbcodeaaMrgL
import Derived.Test.YtaeajeclbcodeaaMrgS
namespace Go.Proofs.Ytaeajeclbcodeaa
open Go.RowKit
set_option linter.unusedVariables false
set_option maxRecDepth 100000
theorem ints_app (l m : List Int) : ints l ++ ints m = ints (l ++ m) := by simp
theorem rDeepStep_cat (l m : List EDeepStep) : rDeepStep l ++ rDeepStep m = rDeepStep (l ++ m) := by simp [rDeepStep, rowOf]
theorem dep_cat (l m : List EDeepStep) : dep (l ++ m) = dep l ++ dep m := by simp [dep]
theorem take_succ_at {l : List Int} {k : Nat} (h : k < l.length) : l.take (k + 1) = l.take k ++ [l[k]] := List.take_succ_eq_append_getElem h
theorem merged_ds {a b : List EDeepStep} (ha : validDeep a = true) (hb : validDeep b = true) : Lib.compact (sortI (dep (a ++ b))) = mergeD (dep a) (dep b) :=
  compact_sorted (asc_dep ha) (asc_dep hb) (fun x => by rw [dep_cat, List.mem_append])
theorem mergeI_len (a b : List EDeepStep) (ds : List Int) : (mergeI a b ds).length ≤ 64 := by rw [mergeI_take, List.length_take]; omega
theorem dep_getE {l : List EDeepStep} {k : Nat} (h : k < l.length) : (dep l)[k]'(by rw [dep_len]; exact h) = l[k].1 := by simp [dep]
set_option maxHeartbeats 16000000 in
theorem I_MergeDeep {A B : Option Addr} {c d : Nat} {a b : List EDeepStep} (w : World) (ha : RS w 2 A a.length c (rDeepStep a)) (hb : RS w 2 B b.length d (rDeepStep b)) :
    Calls Try.prog 14 #[.slice A a.length c, .slice B b.length d] w (MadeRow 61 2 (mergeF a b).length (rDeepStep (mergeF a b)) w) := by
  have hla := ha.len
  have hlb := hb.len
  unfold maxLen at hla hlb
  have HA0 := Lib.hid ha
  have HB0 := Lib.hid hb
  clear ha hb
  cases hva : validDeep a with
  | false =>
    have HF : Hid (mergeF a b = []) := Lib.hid (mergeF_no (by rw [hva]; rfl))
    go_enter Try.func14, Try.ntmps14
    go_wp2_with fail
    refine (I_IsValidDeep _ HA0.out).mono ?_
    rintro e w1 ⟨rfl, hb⟩
    have hz := hb.size
    rw [hva]
    go_wp2_with fail
    go_ret
    rw [HF.out]
    exact MadeRow.none_ _ _ _ (by repeat (first | (with_reducible exact Below.refl _ _) | (with_reducible assumption) | ((with_reducible refine Below.alloc ?_ ?_ _); rotate_left; (first | omega | (simp <;> omega))) | ((with_reducible refine Below.setCell ?_ ?_ _); rotate_left; (first | omega | (simp <;> omega))) | (with_reducible refine below_drewN ?_ _) | (with_reducible refine Below.drew ?_) | ((with_reducible refine Below.step (by assumption) ?_ ?_); rotate_left; (first | omega | (simp <;> omega)))))
  | true =>
    cases hvb : validDeep b with
    | false =>
      have HF : Hid (mergeF a b = []) := Lib.hid (mergeF_no (by rw [hva, hvb]; rfl))
      go_enter Try.func14, Try.ntmps14
      go_wp2_with fail
      refine (I_IsValidDeep _ HA0.out).mono ?_
      rintro e w1 ⟨rfl, b1⟩
      have hz := b1.size
      rw [hva]
      go_wp2_with fail
      refine (I_IsValidDeep _ (RS.step b1 HB0.out)).mono ?_
      rintro e w2 ⟨rfl, hb⟩
      have hz2 := hb.size
      rw [hvb]
      go_wp2_with fail
      go_ret
      rw [HF.out]
      exact MadeRow.none_ _ _ _ (by repeat (first | (with_reducible exact Below.refl _ _) | (with_reducible assumption) | ((with_reducible refine Below.alloc ?_ ?_ _); rotate_left; (first | omega | (simp <;> omega))) | ((with_reducible refine Below.setCell ?_ ?_ _); rotate_left; (first | omega | (simp <;> omega))) | (with_reducible refine below_drewN ?_ _) | (with_reducible refine Below.drew ?_) | ((with_reducible refine Below.step (by assumption) ?_ ?_); rotate_left; (first | omega | (simp <;> omega)))))
    | true =>
      have h64a := validDeep_len hva
      have h64b := validDeep_len hvb
      have HVA := Lib.hid hva
      have HVB := Lib.hid hvb
      go_enter Try.func14, Try.ntmps14
      go_wp2_with fail
      refine (I_IsValidDeep _ HA0.out).mono ?_
      rintro e w1 ⟨rfl, b1⟩
      have hz1 := b1.size
      rw [hva]
      go_wp2_with fail
      refine (I_IsValidDeep _ (RS.step b1 HB0.out)).mono ?_
      rintro e w2 ⟨rfl, hb⟩
      have b2 : Below w.heap.size w w2 := Below.step hb b1 hz1
      have hz2 := b2.size
      clear hb b1 hz1
      rw [hvb]
      clear hva hvb
      have HGI : Hid (Grow (w2.alloc (.cells #[] 3)) w.heap.size 3 1 (some ⟨w2.heap.size, 0, none⟩) 0 0 []) := Lib.hid (Grow.lit w2 #[] 0 rfl hz2 (Nat.zero_le _))
      go_wp2_with fail
      refine (G_CloneDS _ (by omega) (RS.step (by repeat (first | (with_reducible exact Below.refl _ _) | (with_reducible assumption) | ((with_reducible refine Below.alloc ?_ ?_ _); rotate_left; (first | omega | (simp <;> omega))) | ((with_reducible refine Below.setCell ?_ ?_ _); rotate_left; (first | omega | (simp <;> omega))) | (with_reducible refine below_drewN ?_ _) | (with_reducible refine Below.drew ?_) | ((with_reducible refine Below.step (by assumption) ?_ ?_); rotate_left; (first | omega | (simp <;> omega))))) HA0.out)).mono ?_
      rintro e w3 ⟨P, k, rfl, hgc, hb3⟩
      have hz3 := hb3.size
      (try simp at hz3)
      have hPge := hgc.ge
      (try simp at hPge)
      have b3 : Below w.heap.size w w3 := (by repeat (first | (with_reducible exact Below.refl _ _) | (with_reducible assumption) | ((with_reducible refine Below.alloc ?_ ?_ _); rotate_left; (first | omega | (simp <;> omega))) | ((with_reducible refine Below.setCell ?_ ?_ _); rotate_left; (first | omega | (simp <;> omega))) | (with_reducible refine below_drewN ?_ _) | (with_reducible refine Below.drew ?_) | ((with_reducible refine Below.step (by assumption) ?_ ?_); rotate_left; (first | omega | (simp <;> omega)))))
      have HGI3 : Hid (Grow w3 w.heap.size 3 1 (some ⟨w2.heap.size, 0, none⟩) 0 0 []) := Lib.hid (Grow.step hb3 HGI.out)
      have HGC : Hid (Grow w3 w.heap.size 61 2 P a.length k (rDeepStep a)) := Lib.hid (hgc.mono (by simp; omega))
      have HPG : Hid (∀ x, x ∈ gOf P → w2.heap.size < x ∧ x < w3.heap.size) := Lib.hid (fun x hx => ⟨by have := hgc.ge x hx; simp at this; omega, hgc.lt x hx⟩)
      have HRB := Lib.hid (RS.step b3 HB0.out)
      clear hgc hb3 HGI hPge
      go_wp2_with (at_builtin; refine wpList_app (by rfl) _ _ 37 (by rfl) (w.heap.size) 61 (.agg #[.int .i64 0, .int .i64 0]) 2 16 Try.underlying37 T.infoDeepStep rfl (by decide) (xs := rDeepStep a) (by rfl) ?_ (ys := rDeepStep b) (by rfl) ?_ (rDeepStep_one _) ?_ ?_ ?_ ?_; (exact (by repeat (first | (with_reducible exact HGC.out) | (with_reducible refine Grow.alloc ?_ _) | (with_reducible refine Grow.drewN ?_ _) | (with_reducible refine Grow.drew ?_) | ((with_reducible refine Grow.far ?_ ?_ _); rotate_left; (first | omega | (simp <;> omega))) | (with_reducible refine Grow.step (by assumption) ?_)))); (exact HRB.out); (unfold maxLen; omega); (omega); (first | omega | (simp <;> omega)); rintro P4 k4 x4 gA4; have HA := Lib.hid gA4; clear gA4)
      obtain ⟨ab, hab⟩ : ∃ ab, a ++ b = ab := ⟨_, rfl⟩
      have hn : a.length + b.length = ab.length := by rw [← hab, List.length_append]
      have hab128 : ab.length ≤ 128 := by omega
      rw [hn]
      have HGP : Hid (Grow x4 w.heap.size 61 2 P4 ab.length k4 (rDeepStep ab)) := Lib.hid (by have g := HA.out.1; rw [rDeepStep_cat, hab, hn] at g; exact g)
      have HPG4 : Hid (∀ x, x ∈ gOf P4 → w2.heap.size < x) := Lib.hid (fun x hx => by
        rcases HA.out.2.2.2.2 with h | h
        · rw [h] at hx; exact (HPG.out x hx).1
        · rw [h] at hx; simp at hx; omega)
      have hz4 := HA.out.2.2.2.1
      have b4 : Below w.heap.size w x4 := Below.trans b3 HA.out.2.1
      have HGI4 : Hid (Grow x4 w.heap.size 3 1 (some ⟨w2.heap.size, 0, none⟩) 0 0 []) := Lib.hid (Grow.app HA.out HGI3.out (fun x hx hy => by have := (HPG.out x hy).1; simp [gOf] at hx; omega))
      clear HA HGC HPG
      go_wp2_with fail
      go_loopw [5, 7, 27] (fun d_ _ i_ wr => ∃ (i : Nat) (R : Option Addr) (q : Nat), i ≤ ab.length ∧ i_ = .int .i64 i ∧ d_ = .slice R i q ∧ Grow wr w.heap.size 3 1 R i q (ints ((dep ab).take i)) ∧ Grow wr w.heap.size 61 2 P4 ab.length k4 (rDeepStep ab) ∧ (∀ x, x ∈ gOf P4 → x ∉ gOf R) ∧ Below w.heap.size w wr) (fun _ _ i_ _ => ab.length - (RowKit.intOf i_).toNat)
      case atStart => exact ⟨0, _, _, Nat.zero_le _, rfl, rfl, HGI4.out, HGP.out, fun x hx hy => by have := HPG4.out x hx; simp [gOf] at hy; omega, b4⟩
      case round =>
        obtain ⟨i, R, q, hi, rfl, rfl, hg, hp, hd, hb⟩ := hrel
        have HG := Lib.hid hg
        have HP := Lib.hid hp
        have HB := Lib.hid hb
        have HD := Lib.hid hd
        have hz := hb.size
        clear hg hp hb hd
        by_cases hia : i < ab.length
        · obtain ⟨pb, po, rfl, hpl, hcp⟩ := HP.out.rs.open_.2.2 (by omega)
          obtain ⟨q0, q1⟩ := rDeepStep_at (l := ab) hia
          have d0 : wr.cell? ⟨pb, po + i * 2, none⟩ = some (.int .i64 ab[i].1) := by rw [hcp _ (by omega), q0]
          have d1 : wr.cell? ⟨pb, po + i * 2 + 1, none⟩ = some (.int .i64 ab[i].2) := by rw [show po + i * 2 + 1 = po + (i * 2 + 1) by omega, hcp _ (by omega), q1]
          have HTK : Hid (ints ((dep ab).take i) ++ ints [ab[i].1] = ints ((dep ab).take (i + 1))) := Lib.hid (by rw [ints_app, take_succ_at (by rw [dep_len]; exact hia), dep_getE hia])
          clear hcp q0 q1
          generalize ab[i].1 = x at *
          generalize ab[i].2 = y at *
          go_wp2_with (at_builtin; refine wpList_app (by rfl) _ _ 54 (by rfl) (w.heap.size) 3 (.int .i64 0) 1 8 Try.underlying54 T.infoInt rfl (by decide) (xs := ints ((dep ab).take i)) (by rfl) ?_ (ys := ints [x]) (by rfl) ?_ (ints_one _) ?_ ?_ ?_ ?_; (exact (by repeat (first | (with_reducible exact HG.out) | (with_reducible refine Grow.alloc ?_ _) | (with_reducible refine Grow.drewN ?_ _) | (with_reducible refine Grow.drew ?_) | ((with_reducible refine Grow.far ?_ ?_ _); rotate_left; (first | omega | (simp <;> omega))) | (with_reducible refine Grow.step (by assumption) ?_)))); (exact (Grow.rs (base := 0) (n := 1) (c := 1) (by repeat (first | (with_reducible refine Grow.drewN ?_ _) | (with_reducible refine Grow.drew ?_) | (refine Grow.lit_at (by simp) (by rfl) (Nat.zero_le _) (by unfold maxLen; omega)))))); (unfold maxLen; omega); (omega); (first | omega | (simp <;> omega)); rintro P5 k5 x5 gA5; have HA := Lib.hid gA5; clear gA5)
          go_roundw
          case rel => exact ⟨i + 1, _, _, by omega, by go_num, rfl, by have g := HA.out.1; rw [HTK.out] at g; exact g, Grow.app HA.out (by repeat (first | (with_reducible exact HP.out) | (with_reducible refine Grow.alloc ?_ _) | (with_reducible refine Grow.drewN ?_ _) | (with_reducible refine Grow.drew ?_) | ((with_reducible refine Grow.far ?_ ?_ _); rotate_left; (first | omega | (simp <;> omega))) | (with_reducible refine Grow.step (by assumption) ?_))) HD.out, (fun x hx hy => by
            rcases HA.out.2.2.2.2 with h | h
            · rw [h] at hy; exact HD.out x hx hy
            · have h1 := HP.out.lt x hx; rw [h] at hy; simp at hy; omega), Below.trans (by repeat (first | (with_reducible exact Below.refl _ _) | (with_reducible exact HB.out) | (with_reducible assumption) | ((with_reducible refine Below.alloc ?_ ?_ _); rotate_left; (first | omega | (simp <;> omega))) | ((with_reducible refine Below.setCell ?_ ?_ _); rotate_left; (first | omega | (simp <;> omega))) | (with_reducible refine below_drewN ?_ _) | (with_reducible refine Below.drew ?_) | ((with_reducible refine Below.step (by assumption) ?_ ?_); rotate_left; (first | omega | (simp <;> omega))))) HA.out.2.1⟩
          case measure => simp [RowKit.intOf]; omega
        · obtain rfl : i = ab.length := by omega
          have HG2 : Hid (Grow wr w.heap.size 3 1 R (dep ab).length q (ints (dep ab))) := Lib.hid (by have g := HG.out; rw [List.take_of_length_le (by rw [dep_len]; exact Nat.le_refl _)] at g; rw [dep_len]; exact g)
          go_wp2_with fail
          have HS : Hid (Calls Try.prog 38 #[.slice R ab.length q] wr fun e w' => e = .returned (.tuple #[]) ∧ Grow w' w.heap.size 3 1 R ab.length q (ints (sortI (dep ab))) ∧ Only wr.heap.size (gOf R) wr w') := Lib.hid (by have h := G_Sort wr (by rw [dep_len]; omega) HG2.out; rw [sortI_len, dep_len] at h; exact h)
          refine HS.out.mono ?_
          rintro e v5 ⟨rfl, hg5, hO5⟩
          have b5 : Below w.heap.size w v5 := Below.trans HB.out (hO5.below hz HG.out.ge)
          have hz5 := b5.size
          have HG5 := Lib.hid hg5
          have HRG : Hid (∀ x, x ∈ gOf R → w.heap.size ≤ x ∧ x < v5.heap.size) := Lib.hid (fun x hx => ⟨hg5.ge x hx, hg5.lt x hx⟩)
          clear HS HG2 HG HP HGP HGI4 HGI3 HRB hg5 hO5
          go_wp2_with fail
          refine (I_lightOf _).mono ?_
          rintro e v6 ⟨ga, rfl, hga, hgal, hca, hb6⟩
          have hz6 := hb6.size
          have b6 : Below w.heap.size w v6 := Below.step hb6 b5 hz5
          have HG6 := Lib.hid (Grow.step hb6 HG5.out)
          go_wp2_with fail
          refine (I_lightOf _).mono ?_
          rintro e v7 ⟨gb, rfl, hgb, hgbl, hcb, hb7⟩
          have hz7 := hb7.size
          have b7 : Below w.heap.size w v7 := Below.step hb7 b6 b6.size
          have HG7 := Lib.hid (Grow.step hb7 HG6.out)
          have hca7 : v7.cell? ⟨ga, 0, none⟩ = some (.slice A a.length c) := by rw [(bcell hb7).1 _ _ hgal]; exact hca
          clear hb7 hb6 HG6 HG5 b6 b5
          obtain ⟨ds, hds⟩ : ∃ ds, Lib.compact (sortI (dep ab)) = ds := ⟨_, rfl⟩
          have HDS : Hid (ds = mergeD (dep a) (dep b)) := Lib.hid (by rw [← hds, ← hab]; exact merged_ds HVA.out HVB.out)
          have hdl : ds.length ≤ ab.length := by rw [← hds]; have h := compact_len (sortI (dep ab)); rw [sortI_len, dep_len] at h; exact h
          have HC : Hid (∀ wx, Below v7.heap.size v7 wx → Calls Try.prog 40 #[.slice R ab.length q] wx fun e w' => e = .returned (.slice R ds.length q) ∧ Grow w' w.heap.size 3 1 R ds.length q (ints ds) ∧ Only wx.heap.size (gOf R) wx w') := Lib.hid (fun wx hx => by have h := G_Compact (l := sortI (dep ab)) wx (by rw [sortI_len, dep_len]; exact Grow.step hx HG7.out); rw [sortI_len, dep_len, hds] at h; exact h)
          have HGL : Hid (Grow (v7.alloc (.cells #[] 61)) w.heap.size 61 2 (some ⟨v7.heap.size, 0, none⟩) 0 0 []) := Lib.hid (Grow.lit v7 #[] 0 rfl b7.size (Nat.zero_le _))
          clear hds
          go_wp2_with fail
          refine (HC.out _ (by repeat (first | (with_reducible exact Below.refl _ _) | (with_reducible assumption) | ((with_reducible refine Below.alloc ?_ ?_ _); rotate_left; (first | omega | (simp <;> omega))) | ((with_reducible refine Below.setCell ?_ ?_ _); rotate_left; (first | omega | (simp <;> omega))) | (with_reducible refine below_drewN ?_ _) | (with_reducible refine Below.drew ?_) | ((with_reducible refine Below.step (by assumption) ?_ ?_); rotate_left; (first | omega | (simp <;> omega)))))).mono ?_
          rintro e v8 ⟨rfl, hg8, hO8⟩
          have hz8 := hO8.size
          (try simp at hz8)
          have hn8 : ∀ x, v5.heap.size ≤ x → x ∉ gOf R := fun x hx hy => by have := HRG.out x hy; omega
          have hbW : Below v7.heap.size v7 (((v7.alloc (.cells #[] 61)).alloc (.cells #[(.func (.func 67) #[] #[.pointer (some ⟨ga, 0, none⟩)])] 68)).alloc (.cells #[(.func (.func 67) #[] #[.pointer (some ⟨gb, 0, none⟩)])] 68)) := (by repeat (first | (with_reducible exact Below.refl _ _) | (with_reducible assumption) | ((with_reducible refine Below.alloc ?_ ?_ _); rotate_left; (first | omega | (simp <;> omega))) | ((with_reducible refine Below.setCell ?_ ?_ _); rotate_left; (first | omega | (simp <;> omega))) | (with_reducible refine below_drewN ?_ _) | (with_reducible refine Below.drew ?_) | ((with_reducible refine Below.step (by assumption) ?_ ?_); rotate_left; (first | omega | (simp <;> omega)))))
          have b8 : Below w.heap.size w v8 := Below.trans (Below.step hbW b7 b7.size) (hO8.below (by simp; omega) (fun x hx => (HRG.out x hx).1))
          have f8 : v8.cell? ⟨v7.heap.size + 1, 0, none⟩ = some (.func (.func 67) #[] #[.pointer (some ⟨ga, 0, none⟩)]) := by rw [(hO8.cell _ (by simp) (hn8 _ (by omega))).1]; simp [go_sem]
          have f9 : v8.cell? ⟨v7.heap.size + 1 + 1, 0, none⟩ = some (.func (.func 67) #[] #[.pointer (some ⟨gb, 0, none⟩)]) := by rw [(hO8.cell _ (by simp) (hn8 _ (by omega))).1]; simp [go_sem]
          have ka : v8.cell? ⟨ga, 0, none⟩ = some (.slice A a.length c) := by rw [(hO8.cell _ (by simp; omega) (hn8 _ (by omega))).1, (bcell hbW).1 _ _ (by omega)]; exact hca7
          have kb : v8.cell? ⟨gb, 0, none⟩ = some (.slice B b.length d) := by rw [(hO8.cell _ (by simp; omega) (hn8 _ (by omega))).1, (bcell hbW).1 _ _ (by omega)]; exact hcb
          have HGL8 : Hid (Grow v8 w.heap.size 61 2 (some ⟨v7.heap.size, 0, none⟩) 0 0 []) := Lib.hid (Grow.only (Grow.alloc (Grow.alloc HGL.out _) _) hO8 (fun x hx => by simp [gOf] at hx; subst hx; exact ⟨by simp; omega, hn8 _ (by omega)⟩))
          have HG8 := Lib.hid hg8
          have hLw := b7.size
          have hRL : Hid (∀ x, x ∈ gOf R → x ≠ v7.heap.size ∧ x < v8.heap.size) := Lib.hid (fun x hx => ⟨fun e => by have := HRG.out x hx; omega, by have := HRG.out x hx; omega⟩)
          have haL : ga < v7.heap.size := by omega
          clear hg8 hO8 hn8 hbW HGL HC hca hca7 hcb HRG HG7
          generalize v7.heap.size = L at *
          go_wp2_with fail
          have HF8 := Lib.hid f8
          have HF9 := Lib.hid f9
          have HKA := Lib.hid ka
          have HKB := Lib.hid kb
          clear f8 f9 ka kb
          go_loopw [10, 12, 47] (fun o_ _ i_ wr => ∃ (i : Nat) (Q : Option Addr) (n : Nat), i ≤ ds.length ∧ i_ = .int .i64 i ∧ o_ = .slice Q (mergeI a b (ds.take i)).length n ∧ Grow wr w.heap.size 61 2 Q (mergeI a b (ds.take i)).length n (rDeepStep (mergeI a b (ds.take i))) ∧ Only v8.heap.size [L] v8 wr ∧ (∀ x, x ∈ gOf Q → x = L ∨ v8.heap.size ≤ x)) (fun _ _ i_ _ => ds.length - (RowKit.intOf i_).toNat)
          case atStart => exact ⟨0, _, _, Nat.zero_le _, rfl, rfl, HGL8.out, Only.refl _ _ _, fun x hx => by simp [gOf] at hx; exact .inl hx⟩
          case round =>
            obtain ⟨i, Q, n, hi, rfl, rfl, hg, hO, hx⟩ := hrel
            have hzr := hO.size
            have hLn : ∀ x, x ≠ L → x ∉ [L] := fun x h => by simpa using h
            have Bwr : Below w.heap.size w wr := Below.trans b8 (hO.below (by omega) (fun y hy => by simp at hy; omega))
            have f8 : wr.cell? ⟨L + 1, 0, none⟩ = some (.func (.func 67) #[] #[.pointer (some ⟨ga, 0, none⟩)]) := by rw [(hO.cell _ (by omega) (hLn _ (by omega))).1]; exact HF8.out
            have f9 : wr.cell? ⟨L + 1 + 1, 0, none⟩ = some (.func (.func 67) #[] #[.pointer (some ⟨gb, 0, none⟩)]) := by rw [(hO.cell _ (by omega) (hLn _ (by omega))).1]; exact HF9.out
            have ka : wr.cell? ⟨ga, 0, none⟩ = some (.slice A a.length c) := by rw [(hO.cell _ (by omega) (hLn _ (by omega))).1]; exact HKA.out
            have kb : wr.cell? ⟨gb, 0, none⟩ = some (.slice B b.length d) := by rw [(hO.cell _ (by omega) (hLn _ (by omega))).1]; exact HKB.out
            have h64 := mergeI_len a b (ds.take i)
            have HG := Lib.hid hg
            by_cases hia : i < ds.length
            · have RD : RS wr 1 R ds.length q (ints ds) := RS.only HG8.out.rs hO (Nat.le_refl _) (fun _ x hx => hLn _ (hRL.out x hx).1)
              obtain ⟨rb, ro, rfl, hrl, hcr⟩ := RD.open_.2.2 (by omega)
              have cr : wr.cell? ⟨rb, ro + i, none⟩ = some (.int .i64 ds[i]) := by rw [hcr _ (by omega), ints_at hia]
              have HTK : Hid (mergeI a b (ds.take (i + 1)) = deeperF (mergeI a b (ds.take i)) ds[i] (mwF a b ds[i])) := Lib.hid (by rw [take_succ_at hia, mergeI_snoc])
              clear hcr RD
              generalize ds[i] = x at *
              obtain ⟨O, hOO⟩ : ∃ O, mergeI a b (ds.take i) = O := ⟨_, rfl⟩
              rw [hOO] at HTK h64 HG
              rw [hOO]
              clear hOO hg
              obtain ⟨p, hp⟩ : ∃ p, lastW (upto x) a = p := ⟨_, rfl⟩
              obtain ⟨r, hr⟩ : ∃ r, lastW (upto x) b = r := ⟨_, rfl⟩
              have hpr : 0 ≤ p ∧ p ≤ 65536 := by rw [← hp]; exact upto_rng HVA.out x
              have hrr : 0 ≤ r ∧ r ≤ 65536 := by rw [← hr]; exact upto_rng HVB.out x
              have hpq := prod_rng hpr hrr
              obtain ⟨v, hv⟩ : ∃ v, (p * r).tdiv 65536 = v := ⟨_, rfl⟩
              have HMW : Hid (mwF a b x = v) := Lib.hid (by unfold mwF; rw [hp, hr, hv])
              rw [HMW.out] at HTK
              have wpr : -9223372036854775808 ≤ p * r ∧ p * r ≤ 9223372036854775807 := by omega
              have hvr : 0 ≤ v ∧ v ≤ 65536 := by have := mwF_rng HVA.out HVB.out x; rw [HMW.out] at this; exact this
              have HLa : Hid (∀ wx, Below wr.heap.size wr wx → Calls Try.prog 67 #[.int .i64 x, .pointer (some ⟨ga, 0, none⟩)] wx fun e w' => e = .returned (.int .i64 p) ∧ Below wr.heap.size wr w' ∧ w'.cell? ⟨L + 1, 0, none⟩ = some (.func (.func 67) #[] #[.pointer (some ⟨ga, 0, none⟩)]) ∧ w'.cell? ⟨L + 1 + 1, 0, none⟩ = some (.func (.func 67) #[] #[.pointer (some ⟨gb, 0, none⟩)])) := Lib.hid (fun wx h => by
                have h0 := I_light1 (d := x) wx (RS.step (Below.step h Bwr Bwr.size) HA0.out) (show wx.cell? ⟨ga, 0, none⟩ = some (.slice A a.length c) by rw [(bcell h).1 _ _ (by omega)]; exact ka)
                rw [hp] at h0
                refine h0.mono ?_
                rintro e w' ⟨rfl, hb⟩
                have hB := Below.step hb h h.size
                exact ⟨rfl, hB, by rw [(bcell hB).1 _ _ (by omega)]; exact f8, by rw [(bcell hB).1 _ _ (by omega)]; exact f9⟩)
              have HLb : Hid (∀ wx, Below wr.heap.size wr wx → Calls Try.prog 67 #[.int .i64 x, .pointer (some ⟨gb, 0, none⟩)] wx fun e w' => e = .returned (.int .i64 r) ∧ Below wr.heap.size wr w' ∧ w'.cell? ⟨L + 1, 0, none⟩ = some (.func (.func 67) #[] #[.pointer (some ⟨ga, 0, none⟩)]) ∧ w'.cell? ⟨L + 1 + 1, 0, none⟩ = some (.func (.func 67) #[] #[.pointer (some ⟨gb, 0, none⟩)])) := Lib.hid (fun wx h => by
                have h0 := I_light1 (d := x) wx (RS.step (Below.step h Bwr Bwr.size) HB0.out) (show wx.cell? ⟨gb, 0, none⟩ = some (.slice B b.length d) by rw [(bcell h).1 _ _ (by omega)]; exact kb)
                rw [hr] at h0
                refine h0.mono ?_
                rintro e w' ⟨rfl, hb⟩
                have hB := Below.step hb h h.size
                exact ⟨rfl, hB, by rw [(bcell hB).1 _ _ (by omega)]; exact f8, by rw [(bcell hB).1 _ _ (by omega)]; exact f9⟩)
              have HD : Hid (∀ wx, Below wr.heap.size wr wx → Calls Try.prog 41 #[.slice Q O.length n, .int .i64 x, .int .i64 v] wx fun e w' => ∃ Q' n', e = .returned (.slice Q' (deeperF O x v).length n') ∧ Grow w' w.heap.size 61 2 Q' (deeperF O x v).length n' (rDeepStep (deeperF O x v)) ∧ Only v8.heap.size [L] v8 w' ∧ (∀ y, y ∈ gOf Q' → y = L ∨ v8.heap.size ≤ y) ∧ w'.cell? ⟨L + 1, 0, none⟩ = some (.func (.func 67) #[] #[.pointer (some ⟨ga, 0, none⟩)]) ∧ w'.cell? ⟨L + 1 + 1, 0, none⟩ = some (.func (.func 67) #[] #[.pointer (some ⟨gb, 0, none⟩)])) := Lib.hid (fun wx h => by
                have hwx := h.size
                have hbs := Bwr.size
                refine (I_deeperO wx h64 (by omega) (Grow.step h HG.out)).mono ?_
                rintro e w' ⟨Q', n', rfl, g, _, hOd, hm⟩
                have hO' : Only v8.heap.size [L] v8 w' := Only.trans (Only.trans hO (Only.of_below h []) hzr (by simp)) (Only.mono hOd (B' := v8.heap.size) (G' := [L]) (by omega) (fun y hy => (hx y hy).elim (fun e => .inl (by simp [e])) .inr)) (Nat.le_refl _) (fun y hy => hy)
                exact ⟨Q', n', rfl, g, hO', fun y hy => (hm y hy).elim (hx y) (fun h2 => .inr (by omega)), by rw [(hO'.cell _ (by omega) (hLn _ (by omega))).1]; exact HF8.out, by rw [(hO'.cell _ (by omega) (hLn _ (by omega))).1]; exact HF9.out⟩)
              have wvr : -9223372036854775808 ≤ v ∧ v ≤ 9223372036854775807 := by omega
              have wv : IntKind.i64.wrap v = v := IntWalk.i64_in _ wvr
              have wm : IntKind.i64.wrap (p * r) = p * r := IntWalk.i64_in _ wpr
              have HBW := Lib.hid Bwr
              have ir : (i : Int) < ds.length := by omega
              clear wpr hp hr hO hx hLn Bwr ka kb
              go_wp2_with fail
              go_region_held3 (fun w' => w'.cell? ⟨L + 1, 0, none⟩ = some (.func (.func 67) #[] #[.pointer (some ⟨ga, 0, none⟩)]) ∧ w'.cell? ⟨L + 1 + 1, 0, none⟩ = some (.func (.func 67) #[] #[.pointer (some ⟨gb, 0, none⟩)])) (first | ((try dsimp only); refine ⟨?_, ?_⟩ <;> (go_simp; done)) | go_keep)
                (first | (go_at_call 67; (with_reducible refine (HLa.out _ (by repeat (first | (with_reducible exact Below.refl _ _) | (with_reducible assumption) | ((with_reducible refine Below.alloc ?_ ?_ _); rotate_left; (first | omega | (simp <;> omega))) | ((with_reducible refine Below.setCell ?_ ?_ _); rotate_left; (first | omega | (simp <;> omega))) | (with_reducible refine below_drewN ?_ _) | (with_reducible refine Below.drew ?_) | ((with_reducible refine Below.step (by assumption) ?_ ?_); rotate_left; (first | omega | (simp <;> omega)))))).mono ?_); rintro e x1 ⟨rfl, hb1, g8, g9⟩; have hz1 := hb1.size) | (go_at_call 67; (with_reducible refine (HLb.out _ (by repeat (first | (with_reducible exact Below.refl _ _) | (with_reducible assumption) | ((with_reducible refine Below.alloc ?_ ?_ _); rotate_left; (first | omega | (simp <;> omega))) | ((with_reducible refine Below.setCell ?_ ?_ _); rotate_left; (first | omega | (simp <;> omega))) | (with_reducible refine below_drewN ?_ _) | (with_reducible refine Below.drew ?_) | ((with_reducible refine Below.step (by assumption) ?_ ?_); rotate_left; (first | omega | (simp <;> omega)))))).mono ?_); rintro e x2 ⟨rfl, hb2, g18, g19⟩; have hz2 := hb2.size) | (go_at_call 41; (with_reducible refine (HD.out _ (by repeat (first | (with_reducible exact Below.refl _ _) | (with_reducible assumption) | ((with_reducible refine Below.alloc ?_ ?_ _); rotate_left; (first | omega | (simp <;> omega))) | ((with_reducible refine Below.setCell ?_ ?_ _); rotate_left; (first | omega | (simp <;> omega))) | (with_reducible refine below_drewN ?_ _) | (with_reducible refine Below.drew ?_) | ((with_reducible refine Below.step (by assumption) ?_ ?_); rotate_left; (first | omega | (simp <;> omega)))))).mono ?_); rintro e x3 ⟨Q3, n3, rfl, hg3, hO3, hx3, g28, g29⟩; have HG3 := Lib.hid hg3; have HO3 := Lib.hid hO3; have HX3 := Lib.hid hx3; clear hg3 hO3 hx3) | fail)
              all_goals
                go_wp2_with fail
                go_roundw
                case rel => exact ⟨i + 1, _, _, by omega, by go_num, by rw [HTK.out], by rw [HTK.out]; exact HG3.out, HO3.out, HX3.out⟩
                case measure => simp [RowKit.intOf]; omega
            · obtain rfl : i = ds.length := by omega
              have HE : Hid (mergeI a b (ds.take ds.length) = mergeF a b) := Lib.hid (by rw [List.take_of_length_le (Nat.le_refl _), mergeI_take, mergeF_yes HVA.out HVB.out, HDS.out])
              rw [HE.out] at HG
              rw [HE.out]
              clear hg
              go_wp2_with fail
              go_ret
              exact Grow.made HG.out (Nat.le_refl _) Bwr
end Go.Proofs.Ytaeajeclbcodeaa
