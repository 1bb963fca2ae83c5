/- MADE BY PROGRAM (genpints.py). ParseInts of the reference and of the program. -/
import Derived.Test.YtlepnjahpmlccaaDoorSpl
import Derived.Test.YtlepnjahpmlccaaDoorTxtR
namespace Go.Proofs.YtlepnjahpmlccaaDoor
open Go.RowKit Go.Lib
set_option linter.unusedVariables false
set_option maxRecDepth 100000
/-- The numbers whose texts these are. -/
def parseTo : List (List UInt8) → Option (List Int)
  | [] => some []
  | x :: t => (parseI x).bind fun v => (parseTo t).map fun r => v :: r
theorem parseTo_append : ∀ (a b : List (List UInt8)), parseTo (a ++ b) = (parseTo a).bind fun u => (parseTo b).map fun r => u ++ r
  | [], b => by simp [parseTo]
  | x :: t, b => by
    simp only [List.cons_append, parseTo, parseTo_append t b]
    cases parseI x with
    | none => rfl
    | some v =>
      simp only [Option.bind_some]
      cases parseTo t with
      | none => rfl
      | some u => cases parseTo b <;> rfl
theorem parseTo_succ {ps : List (List UInt8)} {k : Nat} {o : List Int} {v : Int} (hk : k < ps.length) (h : parseTo (ps.take k) = some o) (hv : parseI ps[k] = some v) : parseTo (ps.take (k + 1)) = some (o ++ [v]) := by
  rw [List.take_succ_eq_append_getElem hk, parseTo_append, h]
  simp [parseTo, hv]
theorem parseTo_none {ps : List (List UInt8)} {k : Nat} (hk : k < ps.length) (hv : parseI ps[k] = none) : parseTo ps = none := by
  conv => lhs; rw [← List.take_append_drop k ps]
  rw [parseTo_append, List.drop_eq_getElem_cons hk]
  cases parseTo (ps.take k) with
  | none => rfl
  | some u => simp [parseTo, hv]
theorem parseTo_len : ∀ {ps : List (List UInt8)} {o : List Int}, parseTo ps = some o → o.length = ps.length
  | [], o, h => by simp [parseTo] at h; subst h; rfl
  | x :: t, o, h => by
    simp only [parseTo] at h
    cases hx : parseI x with
    | none => rw [hx] at h; cases h
    | some v =>
      rw [hx] at h
      simp only [Option.bind_some] at h
      cases ht : parseTo t with
      | none => rw [ht] at h; cases h
      | some u =>
        rw [ht] at h
        obtain rfl := Option.some.inj h
        simp [parseTo_len ht]
theorem parseTo_map : ∀ {l : List Int}, (∀ n ∈ l, inNum n) → parseTo (l.map fmtI) = some l
  | [], _ => rfl
  | n :: l, h => by
    have ih := parseTo_map (l := l) (fun m hm => h m (by simp [hm]))
    simp only [List.map_cons, parseTo, parseI_fmtI (h n (by simp)), Option.bind_some, ih, Option.map_some]
/-- The integers that a list's text tells. -/
def parseL (l : List UInt8) : Option (List Int) := if l = [45] then some [] else parseTo (splitB 44 l)
theorem RS.farg {w w' : World} {sz n c : Nat} {A : Option Addr} {xs : List Value} (h : RS w sz A n c xs) (hs : w.heap.size ≤ w'.heap.size) (hf : ∀ x, x ∈ gOf A → ∀ o, w'.cell? ⟨x, o, none⟩ = w.cell? ⟨x, o, none⟩) : RS w' sz A n c xs := by
  obtain ⟨hl, A0, c0, hv, hn, hc, h0⟩ := h
  refine ⟨hl, A0, c0, hv, hn, hc, fun hp => ?_⟩
  obtain ⟨b, o, hA, h1, h2, h3⟩ := h0 hp
  simp only [Value.slice.injEq] at hv
  obtain ⟨rfl, _, rfl⟩ := hv
  subst hA
  exact ⟨b, o, rfl, h1, Nat.lt_of_lt_of_le h2 hs, fun j hj => (hf b (by simp [gOf]) _).trans (h3 j hj)⟩
/-- A row of integers was made, and whether there is one. -/
def OutPL (r : Option (List Int)) (w : World) (e : Ending) (w' : World) : Prop :=
  ∃ A c, e = .returned (.tuple #[.slice A (r.getD []).length c, .bool r.isSome]) ∧ OwnS w' 1 A (r.getD []).length c 3 (ints (r.getD [])) ∧ (∀ x, x ∈ gOf A → w.heap.size ≤ x) ∧ Below w.heap.size w w'
set_option maxHeartbeats 8000000 in
theorem S_ParseInts (l : List UInt8) (w : World) (hlim : l.length ≤ 1048576) :
    Calls Tryd.prog 47 #[str l] w (OutPL (parseL l) w) := by
  have HG0 : Hid (Grow (w.alloc (.cells #[] 3)) w.heap.size 3 1 (some ⟨w.heap.size, 0, none⟩) 0 0 []) := Lib.hid (Grow.lit w #[] 0 rfl (Nat.le_refl _) (Nat.zero_le _))
  by_cases h45 : l = [45]
  · subst h45
    go_enter Tryd.func47, Tryd.ntmps47
    go_wp2_with fail
    exact bodyPost_ret (v := .tuple #[.slice (some ⟨w.heap.size, 0, none⟩) 0 0, .bool true]) (by simp [results, Tryd.results47, go_sem]) rfl ⟨_, _, rfl, HG0.out.ownS, HG0.out.ge, (by repeat (first | (with_reducible exact Below.refl _ _) | (with_reducible assumption) | ((with_reducible refine Below.alloc ?_ ?_ _); rotate_left; (first | omega | (simp <;> omega))) | ((with_reducible refine Below.setCell ?_ ?_ _); rotate_left; (first | omega | (simp <;> omega))) | (with_reducible refine below_drewN ?_ _) | (with_reducible refine Below.drew ?_) | ((with_reducible refine Below.step (by assumption) ?_ ?_); rotate_left; (first | omega | (simp <;> omega)))))⟩
  · have HPL : Hid (parseL l = parseTo (splitB 44 l)) := Lib.hid (by unfold parseL; rw [if_neg h45])
    have hb45 : (l == [45]) = false := by simpa using h45
    obtain ⟨ps, hps⟩ : ∃ ps, splitB 44 l = ps := ⟨_, rfl⟩
    have HPS : Hid (∀ k (hk : k < ps.length), ps[k].length ≤ l.length) := Lib.hid (fun k hk => splitB_mem (b := 44) (by rw [hps]; exact List.getElem_mem hk))
    have hpl : ps.length ≤ 1048577 := by have := splitB_len 44 l; rw [hps] at this; omega
    have HSA : Hid (∀ wx, Calls Tryd.prog 45 #[str l, .string ⟨#[44]⟩] wx (OutStrs ps wx)) := Lib.hid (fun wx => by have := S_SplitAny 44 l wx hlim; rwa [hps] at this)
    rw [hps] at HPL
    clear hps
    go_enter Tryd.func47, Tryd.ntmps47
    go_wp2_with fail
    refine (HSA.out _).mono ?_
    rintro e w1 ⟨P, pc, rfl, hrs, hpg, hb⟩
    have hP0 : ∀ x, x ∈ gOf P → w.heap.size + 1 ≤ x := fun x hx => by have := hpg x hx; simpa using this
    have HP0 : Hid (∀ x, x ∈ gOf (some (⟨w.heap.size, 0, none⟩ : Addr)) → x ∉ gOf P) := Lib.hid (fun x hx hm => by have := hP0 x hm; simp [gOf] at hx; omega)
    clear hpg hP0
    have HRS := Lib.hid hrs
    have HB1 : Hid (Below w.heap.size w w1) := Lib.hid (by repeat (first | (with_reducible exact Below.refl _ _) | (with_reducible assumption) | ((with_reducible refine Below.alloc ?_ ?_ _); rotate_left; (first | omega | (simp <;> omega))) | ((with_reducible refine Below.setCell ?_ ?_ _); rotate_left; (first | omega | (simp <;> omega))) | (with_reducible refine below_drewN ?_ _) | (with_reducible refine Below.drew ?_) | ((with_reducible refine Below.step (by assumption) ?_ ?_); rotate_left; (first | omega | (simp <;> omega)))))
    have HG1 : Hid (Grow w1 w.heap.size 3 1 (some ⟨w.heap.size, 0, none⟩) 0 0 []) := Lib.hid (Grow.step hb HG0.out)
    clear hrs hb HG0
    go_wp2_with fail
    go_loopw [4, 6, 7, 8, 16] (fun o_ _ _ _ i_ wr => ∃ (k : Nat) (o : List Int) (B : Option Addr) (d : Nat), k ≤ ps.length ∧ i_ = .int .i64 k ∧ o_ = .slice B k d ∧ parseTo (ps.take k) = some o ∧ o.length = k ∧ Grow wr w.heap.size 3 1 B k d (ints o) ∧ RS wr 1 P ps.length pc (strs ps) ∧ (∀ x, x ∈ gOf B → x ∉ gOf P) ∧ Below w.heap.size w wr) (fun _ _ _ _ i_ _ => ps.length - (RowKit.intOf i_).toNat)
    case atStart => exact ⟨0, [], _, _, Nat.zero_le _, rfl, rfl, rfl, rfl, HG1.out, HRS.out, HP0.out, HB1.out⟩
    case round =>
      obtain ⟨k, o, B, d, hk, rfl, rfl, ht, hok, hg, hr1, hdj, hb⟩ := hrel
      have HT := Lib.hid ht
      have HOK := Lib.hid hok
      have HG := Lib.hid hg
      have HB := Lib.hid hb
      have hz := hb.size
      have HR := Lib.hid hr1
      have HDJ := Lib.hid hdj
      clear ht hok hg hr1 hdj hb
      by_cases hlt : k < ps.length
      · obtain ⟨b, off, rfl, hbh, hcell⟩ := HR.out.open_.2.2 (by omega)
        have c1 : wr.cell? ⟨b, off + k, none⟩ = some (str ps[k]) := by rw [hcell k (by omega), strs_at hlt]
        have hxl := HPS.out k hlt
        have i2 : (k : Int) < ps.length := by omega
        clear hcell
        cases hv : parseI ps[k] with
        | none =>
          have HN : Hid (parseL l = none) := Lib.hid (by rw [HPL.out]; exact parseTo_none hlt hv)
          generalize hx : ps[k] = x at *
          clear hx
          go_wp2_with fail
          refine (S_ParseInt _ _ (by omega)).mono ?_
          rintro e wA ⟨rfl, hbA⟩
          rw [hv]
          go_wp2_with fail
          rw [HN.out]
          exact bodyPost_ret (v := .tuple #[.slice none 0 0, .bool false]) (by simp [results, Tryd.results47, go_sem]) rfl ⟨none, 0, rfl, OwnS.none_ _ _ _, fun x hx => absurd hx (by simp [gOf]), Below.step hbA HB.out HB.out.size⟩
        | some v =>
          have HS := Lib.hid (parseTo_succ hlt HT.out hv)
          generalize hx : ps[k] = x at *
          clear hx
          go_wp2_with fail
          refine (S_ParseInt _ _ (by omega)).mono ?_
          rintro e wA ⟨rfl, hbA⟩
          have zA := hbA.size
          (try simp at zA)
          have HGA : Hid (Grow wA w.heap.size 3 1 B k d (ints o)) := Lib.hid (Grow.step hbA HG.out)
          have HBA : Hid (Below w.heap.size w wA) := Lib.hid (Below.step hbA HB.out HB.out.size)
          have HRA : Hid (RS wA 1 (some ⟨b, off, none⟩) ps.length pc (strs ps)) := Lib.hid (RS.step hbA HR.out)
          have hbB : b ∉ gOf B := fun hm => HDJ.out b hm (by simp [gOf])
          clear hbA
          rw [hv]
          go_wp2_with (at_builtin; refine wpList_app (by rfl) _ _ 32 (by rfl) (w.heap.size) 3 (.int .i64 0) 1 8 Tryd.underlying32 T.infoInt rfl (by decide) (xs := ints o) (by rfl) ?_ (ys := ints [v]) (by rfl) ?_ (ints_one _) ?_ ?_ ?_ ?_; (exact (by repeat (first | (with_reducible exact HGA.out) | (with_reducible refine Grow.alloc ?_ _) | (with_reducible refine Grow.drewN ?_ _) | (with_reducible refine Grow.drew ?_) | ((with_reducible refine Grow.far ?_ ?_ _); rotate_left; (first | omega | (simp <;> omega))) | (with_reducible refine Grow.step (by assumption) ?_)))); (exact (Grow.rs (base := 0) (n := 1) (c := 1) (by repeat (first | (with_reducible refine Grow.drewN ?_ _) | (with_reducible refine Grow.drew ?_) | (refine Grow.lit_at (by simp) (by rfl) (Nat.zero_le _) (by unfold maxLen; omega)))))); (unfold maxLen; omega); (omega); (first | omega | (simp <;> omega)); rintro A' c' w2 gA; have g1 := gA.1; have g2 := gA.2.1; have HF := Lib.hid (Appended.far gA (b := b) (by simp; omega) hbB).1; have HO := Lib.hid gA.2.2.2.2; have gZ := gA.2.2.2.1; (try simp at gZ); have HG2 : Hid (Grow w2 w.heap.size 3 1 A' (k + 1) c' (ints (o ++ [v]))) := Lib.hid (by have e : ints (o ++ [v]) = ints o ++ ints [v] := (by simp); rw [e]; exact g1); have HB2 : Hid (Below w.heap.size w w2) := Lib.hid (Below.trans (by repeat (first | (with_reducible exact Below.refl _ _) | (with_reducible exact HBA.out) | (with_reducible assumption) | ((with_reducible refine Below.alloc ?_ ?_ _); rotate_left; (first | omega | (simp <;> omega))) | ((with_reducible refine Below.setCell ?_ ?_ _); rotate_left; (first | omega | (simp <;> omega))) | (with_reducible refine below_drewN ?_ _) | (with_reducible refine Below.drew ?_) | ((with_reducible refine Below.step (by assumption) ?_ ?_); rotate_left; (first | omega | (simp <;> omega))))) g2); clear gA g1 g2)
          have HR2 : Hid (RS w2 1 (some ⟨b, off, none⟩) ps.length pc (strs ps)) := Lib.hid (RS.farg (RS.alloc HRA.out _) (by simp; omega) (fun x hx o => by simp [gOf] at hx; subst hx; exact HF.out o))
          have HD2 : Hid (∀ x, x ∈ gOf A' → x ∉ gOf (some (⟨b, off, none⟩ : Addr))) := Lib.hid (fun x hx hm => by
            simp [gOf] at hm; subst hm
            rcases HO.out with e | e
            · rw [e] at hx; exact hbB hx
            · rw [e] at hx; simp at hx; omega)
          go_roundw
          case rel => exact ⟨k + 1, o ++ [v], _, _, by omega, by go_num, rfl, HS.out, by rw [List.length_append, HOK.out]; rfl, HG2.out, HR2.out, HD2.out, HB2.out⟩
          case measure => simp [RowKit.intOf]; omega
      · obtain rfl : k = ps.length := by omega
        have HN : Hid (parseL l = some o) := Lib.hid (by rw [HPL.out]; have := HT.out; rwa [List.take_length] at this)
        have hol : o.length = ps.length := HOK.out
        go_wp2_with fail
        rw [HN.out]
        exact bodyPost_ret (v := .tuple #[.slice B o.length d, .bool true]) (by simp [results, Tryd.results47, go_sem, hol]) rfl ⟨B, d, rfl, by have := HG.out.ownS; rw [← hol] at this; exact this, HG.out.ge, HB.out⟩
set_option maxHeartbeats 8000000 in
theorem I_ParseInts (l : List UInt8) (w : World) (hlim : l.length ≤ 1048576) (he : Env w) :
    Calls Tryd.prog 66 #[str l] w (OutPL (parseL l) w) := by
  have HE := Lib.hid he
  clear he
  have HG0 : Hid (Grow (w.alloc (.cells #[] 3)) w.heap.size 3 1 (some ⟨w.heap.size, 0, none⟩) 0 0 []) := Lib.hid (Grow.lit w #[] 0 rfl (Nat.le_refl _) (Nat.zero_le _))
  by_cases h45 : l = [45]
  · subst h45
    go_enter Tryd.func66, Tryd.ntmps66
    go_wp2_with fail
    exact bodyPost_ret (v := .tuple #[.slice (some ⟨w.heap.size, 0, none⟩) 0 0, .bool true]) (by simp [results, Tryd.results66, go_sem]) rfl ⟨_, _, rfl, HG0.out.ownS, HG0.out.ge, (by repeat (first | (with_reducible exact Below.refl _ _) | (with_reducible assumption) | ((with_reducible refine Below.alloc ?_ ?_ _); rotate_left; (first | omega | (simp <;> omega))) | ((with_reducible refine Below.setCell ?_ ?_ _); rotate_left; (first | omega | (simp <;> omega))) | (with_reducible refine below_drewN ?_ _) | (with_reducible refine Below.drew ?_) | ((with_reducible refine Below.step (by assumption) ?_ ?_); rotate_left; (first | omega | (simp <;> omega)))))⟩
  · have HPL : Hid (parseL l = parseTo (splitB 44 l)) := Lib.hid (by unfold parseL; rw [if_neg h45])
    have hb45 : (l == [45]) = false := by simpa using h45
    obtain ⟨ps, hps⟩ : ∃ ps, splitB 44 l = ps := ⟨_, rfl⟩
    have HPS : Hid (∀ k (hk : k < ps.length), ps[k].length ≤ l.length) := Lib.hid (fun k hk => splitB_mem (b := 44) (by rw [hps]; exact List.getElem_mem hk))
    have hpl : ps.length ≤ 1048577 := by have := splitB_len 44 l; rw [hps] at this; omega
    have HSA : Hid (∀ wx, Calls Tryd.prog 64 #[str l, .string ⟨#[44]⟩] wx (OutStrs ps wx)) := Lib.hid (fun wx => by have := I_SplitAny 44 l wx hlim; rwa [hps] at this)
    rw [hps] at HPL
    clear hps
    go_enter Tryd.func66, Tryd.ntmps66
    go_wp2_with fail
    refine (HSA.out _).mono ?_
    rintro e w1 ⟨P, pc, rfl, hrs, hpg, hb⟩
    have hP0 : ∀ x, x ∈ gOf P → w.heap.size + 1 ≤ x := fun x hx => by have := hpg x hx; simpa using this
    have HP0 : Hid (∀ x, x ∈ gOf (some (⟨w.heap.size, 0, none⟩ : Addr)) → x ∉ gOf P) := Lib.hid (fun x hx hm => by have := hP0 x hm; simp [gOf] at hx; omega)
    clear hpg hP0
    have HRS := Lib.hid hrs
    have HB1 : Hid (Below w.heap.size w w1) := Lib.hid (by repeat (first | (with_reducible exact Below.refl _ _) | (with_reducible assumption) | ((with_reducible refine Below.alloc ?_ ?_ _); rotate_left; (first | omega | (simp <;> omega))) | ((with_reducible refine Below.setCell ?_ ?_ _); rotate_left; (first | omega | (simp <;> omega))) | (with_reducible refine below_drewN ?_ _) | (with_reducible refine Below.drew ?_) | ((with_reducible refine Below.step (by assumption) ?_ ?_); rotate_left; (first | omega | (simp <;> omega)))))
    have HG1 : Hid (Grow w1 w.heap.size 3 1 (some ⟨w.heap.size, 0, none⟩) 0 0 []) := Lib.hid (Grow.step hb HG0.out)
    clear hrs hb HG0
    go_wp2_with fail
    go_loopw [4, 6, 7, 8, 16] (fun o_ _ _ _ i_ wr => ∃ (k : Nat) (o : List Int) (B : Option Addr) (d : Nat), k ≤ ps.length ∧ i_ = .int .i64 k ∧ o_ = .slice B k d ∧ parseTo (ps.take k) = some o ∧ o.length = k ∧ Grow wr w.heap.size 3 1 B k d (ints o) ∧ RS wr 1 P ps.length pc (strs ps) ∧ (∀ x, x ∈ gOf B → x ∉ gOf P) ∧ Below w.heap.size w wr) (fun _ _ _ _ i_ _ => ps.length - (RowKit.intOf i_).toNat)
    case atStart => exact ⟨0, [], _, _, Nat.zero_le _, rfl, rfl, rfl, rfl, HG1.out, HRS.out, HP0.out, HB1.out⟩
    case round =>
      obtain ⟨k, o, B, d, hk, rfl, rfl, ht, hok, hg, hr1, hdj, hb⟩ := hrel
      have HT := Lib.hid ht
      have HOK := Lib.hid hok
      have HG := Lib.hid hg
      have HB := Lib.hid hb
      have hz := hb.size
      have HR := Lib.hid hr1
      have HDJ := Lib.hid hdj
      clear ht hok hg hr1 hdj hb
      by_cases hlt : k < ps.length
      · obtain ⟨b, off, rfl, hbh, hcell⟩ := HR.out.open_.2.2 (by omega)
        have c1 : wr.cell? ⟨b, off + k, none⟩ = some (str ps[k]) := by rw [hcell k (by omega), strs_at hlt]
        have hxl := HPS.out k hlt
        have i2 : (k : Int) < ps.length := by omega
        clear hcell
        cases hv : parseI ps[k] with
        | none =>
          have HN : Hid (parseL l = none) := Lib.hid (by rw [HPL.out]; exact parseTo_none hlt hv)
          generalize hx : ps[k] = x at *
          clear hx
          go_wp2_with fail
          refine (I_ParseInt _ _ (by omega) (HE.out.step (by first | exact HB.out | exact (by repeat (first | (with_reducible exact Below.refl _ _) | (with_reducible exact HB.out) | (with_reducible assumption) | ((with_reducible refine Below.alloc ?_ ?_ _); rotate_left; (first | omega | (simp <;> omega))) | ((with_reducible refine Below.setCell ?_ ?_ _); rotate_left; (first | omega | (simp <;> omega))) | (with_reducible refine below_drewN ?_ _) | (with_reducible refine Below.drew ?_) | ((with_reducible refine Below.step (by assumption) ?_ ?_); rotate_left; (first | omega | (simp <;> omega)))))))).mono ?_
          rintro e wA ⟨rfl, hbA⟩
          rw [hv]
          go_wp2_with fail
          rw [HN.out]
          exact bodyPost_ret (v := .tuple #[.slice none 0 0, .bool false]) (by simp [results, Tryd.results66, go_sem]) rfl ⟨none, 0, rfl, OwnS.none_ _ _ _, fun x hx => absurd hx (by simp [gOf]), Below.step hbA HB.out HB.out.size⟩
        | some v =>
          have HS := Lib.hid (parseTo_succ hlt HT.out hv)
          generalize hx : ps[k] = x at *
          clear hx
          go_wp2_with fail
          refine (I_ParseInt _ _ (by omega) (HE.out.step (by first | exact HB.out | exact (by repeat (first | (with_reducible exact Below.refl _ _) | (with_reducible exact HB.out) | (with_reducible assumption) | ((with_reducible refine Below.alloc ?_ ?_ _); rotate_left; (first | omega | (simp <;> omega))) | ((with_reducible refine Below.setCell ?_ ?_ _); rotate_left; (first | omega | (simp <;> omega))) | (with_reducible refine below_drewN ?_ _) | (with_reducible refine Below.drew ?_) | ((with_reducible refine Below.step (by assumption) ?_ ?_); rotate_left; (first | omega | (simp <;> omega)))))))).mono ?_
          rintro e wA ⟨rfl, hbA⟩
          have zA := hbA.size
          (try simp at zA)
          have HGA : Hid (Grow wA w.heap.size 3 1 B k d (ints o)) := Lib.hid (Grow.step hbA HG.out)
          have HBA : Hid (Below w.heap.size w wA) := Lib.hid (Below.step hbA HB.out HB.out.size)
          have HRA : Hid (RS wA 1 (some ⟨b, off, none⟩) ps.length pc (strs ps)) := Lib.hid (RS.step hbA HR.out)
          have hbB : b ∉ gOf B := fun hm => HDJ.out b hm (by simp [gOf])
          clear hbA
          rw [hv]
          go_wp2_with (at_builtin; refine wpList_app (by rfl) _ _ 32 (by rfl) (w.heap.size) 3 (.int .i64 0) 1 8 Tryd.underlying32 T.infoInt rfl (by decide) (xs := ints o) (by rfl) ?_ (ys := ints [v]) (by rfl) ?_ (ints_one _) ?_ ?_ ?_ ?_; (exact (by repeat (first | (with_reducible exact HGA.out) | (with_reducible refine Grow.alloc ?_ _) | (with_reducible refine Grow.drewN ?_ _) | (with_reducible refine Grow.drew ?_) | ((with_reducible refine Grow.far ?_ ?_ _); rotate_left; (first | omega | (simp <;> omega))) | (with_reducible refine Grow.step (by assumption) ?_)))); (exact (Grow.rs (base := 0) (n := 1) (c := 1) (by repeat (first | (with_reducible refine Grow.drewN ?_ _) | (with_reducible refine Grow.drew ?_) | (refine Grow.lit_at (by simp) (by rfl) (Nat.zero_le _) (by unfold maxLen; omega)))))); (unfold maxLen; omega); (omega); (first | omega | (simp <;> omega)); rintro A' c' w2 gA; have g1 := gA.1; have g2 := gA.2.1; have HF := Lib.hid (Appended.far gA (b := b) (by simp; omega) hbB).1; have HO := Lib.hid gA.2.2.2.2; have gZ := gA.2.2.2.1; (try simp at gZ); have HG2 : Hid (Grow w2 w.heap.size 3 1 A' (k + 1) c' (ints (o ++ [v]))) := Lib.hid (by have e : ints (o ++ [v]) = ints o ++ ints [v] := (by simp); rw [e]; exact g1); have HB2 : Hid (Below w.heap.size w w2) := Lib.hid (Below.trans (by repeat (first | (with_reducible exact Below.refl _ _) | (with_reducible exact HBA.out) | (with_reducible assumption) | ((with_reducible refine Below.alloc ?_ ?_ _); rotate_left; (first | omega | (simp <;> omega))) | ((with_reducible refine Below.setCell ?_ ?_ _); rotate_left; (first | omega | (simp <;> omega))) | (with_reducible refine below_drewN ?_ _) | (with_reducible refine Below.drew ?_) | ((with_reducible refine Below.step (by assumption) ?_ ?_); rotate_left; (first | omega | (simp <;> omega))))) g2); clear gA g1 g2)
          have HR2 : Hid (RS w2 1 (some ⟨b, off, none⟩) ps.length pc (strs ps)) := Lib.hid (RS.farg (RS.alloc HRA.out _) (by simp; omega) (fun x hx o => by simp [gOf] at hx; subst hx; exact HF.out o))
          have HD2 : Hid (∀ x, x ∈ gOf A' → x ∉ gOf (some (⟨b, off, none⟩ : Addr))) := Lib.hid (fun x hx hm => by
            simp [gOf] at hm; subst hm
            rcases HO.out with e | e
            · rw [e] at hx; exact hbB hx
            · rw [e] at hx; simp at hx; omega)
          go_roundw
          case rel => exact ⟨k + 1, o ++ [v], _, _, by omega, by go_num, rfl, HS.out, by rw [List.length_append, HOK.out]; rfl, HG2.out, HR2.out, HD2.out, HB2.out⟩
          case measure => simp [RowKit.intOf]; omega
      · obtain rfl : k = ps.length := by omega
        have HN : Hid (parseL l = some o) := Lib.hid (by rw [HPL.out]; have := HT.out; rwa [List.take_length] at this)
        have hol : o.length = ps.length := HOK.out
        go_wp2_with fail
        rw [HN.out]
        exact bodyPost_ret (v := .tuple #[.slice B o.length d, .bool true]) (by simp [results, Tryd.results66, go_sem, hol]) rfl ⟨B, d, rfl, by have := HG.out.ownS; rw [← hol] at this; exact this, HG.out.ge, HB.out⟩
end Go.Proofs.YtlepnjahpmlccaaDoor
