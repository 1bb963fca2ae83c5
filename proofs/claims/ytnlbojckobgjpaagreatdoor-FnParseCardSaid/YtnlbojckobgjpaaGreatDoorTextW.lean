/- MADE BY PROGRAM (gentextw.py). The text of a node of a valid program: l13Text of the reference, text of the program. -/
import Derived.Test.YtnlbojckobgjpaaGreatDoorNumW
import Derived.Test.YtnlbojckobgjpaaGreatDoorProgA
import Derived.Test.YtnlbojckobgjpaaGreatDoorOwnW
import Derived.BigQuiet
import Derived.Deep.QuietTactic
import Derived.Deep.RegionHeld3
set_option linter.unusedVariables false
set_option linter.unusedSimpArgs false
set_option linter.unnecessarySimpa false
namespace Go.Proofs.YtnlbojckobgjpaaGreatDoor
open Go.RowKit Go.Lib
set_option maxRecDepth 100000
theorem nodeT1 (name : List UInt8) (num : Int) (l : List Int) (ts : List (List UInt8)) : nodeT (1, name, num, l) ts = numF num := by simp [nodeT]
theorem nodeT2 (name : List UInt8) (num : Int) (l : List Int) (ts : List (List UInt8)) : nodeT (2, name, num, l) ts = name := by simp [nodeT]
theorem nodeT3 (name : List UInt8) (num : Int) (l : List Int) (x : List UInt8) : nodeT (3, name, num, l) [x] = [40, 45] ++ x ++ [41] := by simp [nodeT]
theorem nodeT8 (name : List UInt8) (num : Int) (l : List Int) (ts : List (List UInt8)) : nodeT (8, name, num, l) ts = name ++ [40] ++ join ts [44, 32] ++ [41] := by simp [nodeT]
theorem nodeT4 (name : List UInt8) (num : Int) (l : List Int) (x y : List UInt8) : nodeT (4, name, num, l) [x, y] = [40] ++ x ++ [32] ++ [43] ++ [32] ++ y ++ [41] := by simp [nodeT, opB]
theorem nodeT5 (name : List UInt8) (num : Int) (l : List Int) (x y : List UInt8) : nodeT (5, name, num, l) [x, y] = [40] ++ x ++ [32] ++ [45] ++ [32] ++ y ++ [41] := by simp [nodeT, opB]
theorem nodeT6 (name : List UInt8) (num : Int) (l : List Int) (x y : List UInt8) : nodeT (6, name, num, l) [x, y] = [40] ++ x ++ [32] ++ [42] ++ [32] ++ y ++ [41] := by simp [nodeT, opB]
theorem nodeT7 (name : List UInt8) (num : Int) (l : List Int) (x y : List UInt8) : nodeT (7, name, num, l) [x, y] = [40] ++ x ++ [32] ++ [47] ++ [32] ++ y ++ [41] := by simp [nodeT, opB]
theorem node_num {p : EProg} (h : validP p = true) {k : Nat} (hk : k < p.1.length) (h1 : p.1[k].1 = 1) : ∃ m : Nat, p.1[k].2.2.1 = m ∧ m ≤ 2559999 := by
  have hh := nodesTo_at (valid_nodes h) hk
  unfold okNode okFields at hh
  simp only [Bool.and_eq_true] at hh
  have h2 := hh.1.1.2
  rw [if_pos h1] at h2
  have := inB_true h2
  exact ⟨p.1[k].2.2.1.toNat, by omega, by omega⟩
theorem one_of {α : Type} {l : List α} (h : l.length = 1) : ∃ x, l = [x] := by
  match l, h with
  | [x], _ => exact ⟨x, rfl⟩
theorem two_of {α : Type} {l : List α} (h : l.length = 2) : ∃ x y, l = [x, y] := by
  match l, h with
  | [x, y], _ => exact ⟨x, y, rfl⟩
theorem op8_cases {op : Int} {n : Nat} (h : okShape op n = true) : (op = 1 ∧ n = 0) ∨ (op = 2 ∧ n = 0) ∨ (op = 3 ∧ n = 1) ∨ (op = 8 ∧ n ≤ 3) ∨ (op = 4 ∧ n = 2) ∨ (op = 5 ∧ n = 2) ∨ (op = 6 ∧ n = 2) ∨ (op = 7 ∧ n = 2) := by
  unfold okShape at h
  split at h
  · have := of_decide_eq_true h; omega
  · split at h
    · have := of_decide_eq_true h; omega
    · split at h
      · have := of_decide_eq_true h; omega
      · split at h
        · have := of_decide_eq_true h; omega
        · cases h
set_option maxHeartbeats 4000000 in
theorem I_Join0 {A : Option Addr} {c : Nat} {sep : List UInt8} (w : World) :
    Calls Tryz.prog 42 #[.slice A 0 c, str sep] w fun e w' => e = .returned (str (join [] sep)) ∧ Below w.heap.size w w' := by
  have HJ : Hid (∀ wx, Calls Tryz.prog 95 #[.slice A 0 c, str sep] wx fun e w' => e = .returned (str []) ∧ wx = w') := Lib.hid (fun wx => (Tryz.strings_Join_none A c _ wx).mono (fun e w' h => by first | exact ⟨h.1, h.2⟩ | exact ⟨h.1, h.2.symm⟩))
  go_enter Tryz.func42, Tryz.ntmps42
  go_wp2_with (first | (go_at_call 68; go_in) | (go_at_call 95; refine (HJ.out _).mono ?_; rintro e w' ⟨rfl, rfl⟩) | fail)
  go_ret
  exact ⟨by rw [join_nil]; rfl, (by repeat (first | (with_reducible exact Below.refl _ _) | (with_reducible assumption) | ((with_reducible refine Below.alloc ?_ ?_ _); rotate_left; (first | omega | (simp <;> omega))) | ((with_reducible refine Below.setCell ?_ ?_ _); rotate_left; (first | omega | (simp <;> omega))) | (with_reducible refine below_drewN ?_ _) | (with_reducible refine Below.drew ?_) | ((with_reducible refine Below.step (by assumption) ?_ ?_); rotate_left; (first | omega | (simp <;> omega)))))⟩
set_option maxHeartbeats 1000000 in
theorem I_symbolOf4 (w : World) : Calls Tryz.prog 43 #[.int .i64 4] w fun e w' => e = .returned (str [43]) ∧ w = w' := by
  go_enter Tryz.func43, Tryz.ntmps43
  go_wp2_with fail
  go_ret
  exact ⟨rfl, rfl⟩
set_option maxHeartbeats 1000000 in
theorem I_symbolOf5 (w : World) : Calls Tryz.prog 43 #[.int .i64 5] w fun e w' => e = .returned (str [45]) ∧ w = w' := by
  go_enter Tryz.func43, Tryz.ntmps43
  go_wp2_with fail
  go_ret
  exact ⟨rfl, rfl⟩
set_option maxHeartbeats 1000000 in
theorem I_symbolOf6 (w : World) : Calls Tryz.prog 43 #[.int .i64 6] w fun e w' => e = .returned (str [42]) ∧ w = w' := by
  go_enter Tryz.func43, Tryz.ntmps43
  go_wp2_with fail
  go_ret
  exact ⟨rfl, rfl⟩
set_option maxHeartbeats 1000000 in
theorem I_symbolOf7 (w : World) : Calls Tryz.prog 43 #[.int .i64 7] w fun e w' => e = .returned (str [47]) ∧ w = w' := by
  go_enter Tryz.func43, Tryz.ntmps43
  go_wp2_with fail
  go_ret
  exact ⟨rfl, rfl⟩
set_option maxHeartbeats 32000000 in
theorem I_text {A A2 : Option Addr} {c c2 : Nat} {p : EProg} (w0 : World) (h : ProgIn w0 A c A2 c2 p) (hv : validP p = true) (hta : Tab w0) :
    ∀ f x, x < f → x < p.1.length → ∀ w : World, Below w0.heap.size w0 w →
      Calls Tryz.prog 17 #[vProg A p.1.length c A2 p.2.length c2, .int .i64 x] w fun e w' => e = .returned (str (textP p x)) ∧ Below w.heap.size w w' := by
  have H0 := Lib.hid h
  have HV := Lib.hid hv
  have HTA := Lib.hid hta
  have hl1 := valid_len hv
  clear h hv hta
  intro f
  induction f with
  | zero => intro x hx; omega
  | succ f ih =>
    intro x hxf hxn w hB
    have IH : Hid (∀ m : Nat, m < x → ∀ wx, Below w.heap.size w wx → Calls Tryz.prog 17 #[vProg A p.1.length c A2 p.2.length c2, .int .i64 m] wx fun e w' => e = .returned (str (textP p m)) ∧ Below wx.heap.size wx w') := Lib.hid (fun m hm wx hb => ih m (by omega) (by omega) wx (Below.step hb hB hB.size))
    clear ih
    have HB := Lib.hid hB
    obtain ⟨b, off, AR, cr, rfl, hbh, hs, hr, x0, x1, x2, x3⟩ := H0.out.1.2.2 x hxn
    have hbw : b < w.heap.size := Nat.lt_of_lt_of_le hbh hB.size
    have d0 := (hB.cell (p := ⟨b, off + x * 4, none⟩) hbh).trans x0
    have d1 := (hB.cell (p := ⟨b, off + x * 4 + 1, none⟩) hbh).trans x1
    have d2 := (hB.cell (p := ⟨b, off + x * 4 + 2, none⟩) hbh).trans x2
    have d3 := (hB.cell (p := ⟨b, off + x * 4 + 3, none⟩) hbh).trans x3
    have HR := Lib.hid (RS.step hB hr)
    have HTX := Lib.hid (textP_eq (valid_nodes HV.out) hxn)
    have HTL := Lib.hid (textP_len HV.out hxn)
    have HAR : Hid (∀ t (ht : t < p.1[x].2.2.2.length), ∃ m : Nat, p.1[x].2.2.2[t] = m ∧ m < x) := Lib.hid (fun t ht => by
      have := node_args (valid_nodes HV.out) hxn _ (List.getElem_mem ht)
      exact ⟨p.1[x].2.2.2[t].toNat, by omega, by omega⟩)
    have hsh := node_shape HV.out hxn
    have HNM := Lib.hid (fun h1 => node_num HV.out hxn h1)
    have HNL := Lib.hid (node_name HV.out hxn)
    obtain ⟨⟨op, name, num, args⟩, hx⟩ : ∃ y, p.1[x] = y := ⟨_, rfl⟩
    rw [hx] at d0 d1 d2 d3 hsh HR HTX HAR HNM HNL
    (try dsimp only at d0 d1 d2 d3 hsh HR HTX HAR HNM HNL)
    rw [HTX.out] at HTL ⊢
    obtain ⟨ts, hts⟩ : ∃ ts, args.map (fun a => textP p a.toNat) = ts := ⟨_, rfl⟩
    have HTN : Hid (ts.length = args.length) := Lib.hid (by rw [← hts, List.length_map])
    have HTT : Hid (∀ t (h1 : t < args.length) (h2 : t < ts.length) (m : Nat), args[t] = m → textP p m = ts[t]) := Lib.hid (fun t h1 h2 m hm => by subst hts; rw [List.getElem_map, hm]; rfl)
    rw [hts] at HTL ⊢
    obtain ⟨TT, hTT⟩ : ∃ TT, nodeT (op, name, num, args) ts = TT := ⟨_, rfl⟩
    rw [hTT] at HTL ⊢
    have HTE := Lib.hid hTT
    clear hTT
    obtain ⟨n, hn⟩ : ∃ n, args.length = n := ⟨_, rfl⟩
    rw [hn] at d3 hsh HTN
    have HN := Lib.hid hn
    have hn3 : n ≤ 3 := okShape_le hsh
    have HSH := Lib.hid hsh
    have i1 : (x : Int) < p.1.length := by omega
    have i2 : (0 : Int) ≤ x := by omega
    have HRN : Hid (RS w 1 AR n cr (ints args)) := Lib.hid (by rw [← hn]; exact HR.out)
    have HG0 : Hid (Grow (((w.alloc (.cells #[.slice (some ⟨b, off, none⟩) p.1.length c, .slice A2 p.2.length c2] 26)).alloc (.cells #[.int .i64 op, str name, .int .i64 num, .slice AR n cr] 70)).alloc (.cells #[] 9)) (w.heap.size + 1 + 1) 9 1 (some ⟨w.heap.size + 1 + 1, 0, none⟩) 0 0 (strs (ts.take 0))) := Lib.hid (by rw [List.take_zero]; exact Grow.lit_at (cs := #[]) (by simp) rfl (by simp) (Nat.zero_le _))
    have HP0 : Hid (Own (((w.alloc (.cells #[.slice (some ⟨b, off, none⟩) p.1.length c, .slice A2 p.2.length c2] 26)).alloc (.cells #[.int .i64 op, str name, .int .i64 num, .slice AR n cr] 70)).alloc (.cells #[] 9)) w.heap.size 26 [.slice (some ⟨b, off, none⟩) p.1.length c, .slice A2 p.2.length c2]) := Lib.hid (Own.alloc (Own.alloc (Own.new w _ #[_, _]) _) _)
    have HQ0 : Hid (Own (((w.alloc (.cells #[.slice (some ⟨b, off, none⟩) p.1.length c, .slice A2 p.2.length c2] 26)).alloc (.cells #[.int .i64 op, str name, .int .i64 num, .slice AR n cr] 70)).alloc (.cells #[] 9)) (w.heap.size + 1) 70 [.int .i64 op, str name, .int .i64 num, .slice AR n cr]) := Lib.hid (Own.alloc (Own.at_new (cs := #[_, _, _, _]) (by simp)) _)
    clear x0 x1 x2 x3 hs hr hx hB hsh HTX HR hts hn
    go_enter Tryz.func17, Tryz.ntmps17
    go_wp2_with fail
    go_loopw [6, 8, 18] (fun o _ i wr => ∃ (t : Nat) (B : Option Addr) (d : Nat), t ≤ n ∧ i = .int .i64 t ∧ o = .slice B t d ∧ Grow wr (w.heap.size + 1 + 1) 9 1 B t d (strs (ts.take t)) ∧ Own wr w.heap.size 26 [.slice (some ⟨b, off, none⟩) p.1.length c, .slice A2 p.2.length c2] ∧ Own wr (w.heap.size + 1) 70 [.int .i64 op, str name, .int .i64 num, .slice AR n cr] ∧ Below w.heap.size w wr) (fun _ _ i _ => n - (RowKit.intOf i).toNat)
    case atStart => exact ⟨0, _, _, Nat.zero_le _, rfl, rfl, HG0.out, HP0.out, HQ0.out, (by repeat (first | (with_reducible exact Below.refl _ _) | (with_reducible assumption) | ((with_reducible refine Below.alloc ?_ ?_ _); rotate_left; (first | omega | (simp <;> omega))) | ((with_reducible refine Below.setCell ?_ ?_ _); rotate_left; (first | omega | (simp <;> omega))) | (with_reducible refine below_drewN ?_ _) | (with_reducible refine Below.drew ?_) | ((with_reducible refine Below.step (by assumption) ?_ ?_); rotate_left; (first | omega | (simp <;> omega)))))⟩
    case round =>
      obtain ⟨t, B, d, ht, rfl, rfl, hg, hp, hq, hb⟩ := hrel
      obtain ⟨wo, rfl⟩ : ∃ wo, wo = wr := ⟨_, rfl⟩
      have hz := hb.size
      have hl := hp.lt
      have hlq := hq.lt
      have hgg := hg.lt
      have HG := Lib.hid hg
      have HP := Lib.hid hp
      have HQ := Lib.hid hq
      have HBW := Lib.hid hb
      have p0 : wo.cell? ⟨w.heap.size, 0, none⟩ = some (.slice (some ⟨b, off, none⟩) p.1.length c) := hp.cell 0
      have p1 : wo.cell? ⟨w.heap.size, 1, none⟩ = some (.slice A2 p.2.length c2) := hp.cell 1
      have q0 : wo.cell? ⟨w.heap.size + 1, 0, none⟩ = some (.int .i64 op) := hq.cell 0
      have q1 : wo.cell? ⟨w.heap.size + 1, 1, none⟩ = some (str name) := hq.cell 1
      have q2 : wo.cell? ⟨w.heap.size + 1, 2, none⟩ = some (.int .i64 num) := hq.cell 2
      have q3 : wo.cell? ⟨w.heap.size + 1, 3, none⟩ = some (.slice AR n cr) := hq.cell 3
      clear hg hp hq hb HG0 HP0 HQ0 d0 d1 d2 d3
      by_cases hlt : t < n
      · obtain ⟨b2, o2, rfl, hbh2, hcell2⟩ := (RS.step HBW.out HRN.out).open_.2.2 (by omega)
        have hta : t < args.length := by have := HN.out; omega
        have htt : t < ts.length := by have := HTN.out; omega
        have e4 : wo.cell? ⟨b2, o2 + t, none⟩ = some (.int .i64 args[t]) := by rw [hcell2 t (by omega), ints_at hta]
        obtain ⟨m, hm, hmi⟩ := HAR.out t hta
        rw [hm] at e4
        have HS : Hid (strs (ts.take (t + 1)) = strs (ts.take t) ++ strs [ts[t]]) := Lib.hid (by rw [List.take_succ_eq_append_getElem htt, strs_snoc])
        have HC : Hid (∀ wx, Below w.heap.size w wx → Calls Tryz.prog 17 #[vProg (some ⟨b, off, none⟩) p.1.length c A2 p.2.length c2, .int .i64 m] wx fun e w' => e = .returned (str ts[t]) ∧ Below wx.heap.size wx w') := Lib.hid (fun wx hb => by rw [← HTT.out t hta htt m hm]; exact IH.out m hmi wx hb)
        have j1 : (t : Int) < n := by omega
        generalize ts[t] = y at *
        clear hcell2 hm
        go_wp2_with fail
        refine (HC.out _ (by repeat (first | (with_reducible exact Below.refl _ _) | (with_reducible exact HBW.out) | (with_reducible assumption) | ((with_reducible refine Below.alloc ?_ ?_ _); rotate_left; (first | omega | (simp <;> omega))) | ((with_reducible refine Below.setCell ?_ ?_ _); rotate_left; (first | omega | (simp <;> omega))) | (with_reducible refine below_drewN ?_ _) | (with_reducible refine Below.drew ?_) | ((with_reducible refine Below.step (by assumption) ?_ ?_); rotate_left; (first | omega | (simp <;> omega)))))).mono ?_
        rintro e wA ⟨rfl, hbA⟩
        have bA : Below w.heap.size w wA := Below.step hbA (by repeat (first | (with_reducible exact Below.refl _ _) | (with_reducible exact HBW.out) | (with_reducible assumption) | ((with_reducible refine Below.alloc ?_ ?_ _); rotate_left; (first | omega | (simp <;> omega))) | ((with_reducible refine Below.setCell ?_ ?_ _); rotate_left; (first | omega | (simp <;> omega))) | (with_reducible refine below_drewN ?_ _) | (with_reducible refine Below.drew ?_) | ((with_reducible refine Below.step (by assumption) ?_ ?_); rotate_left; (first | omega | (simp <;> omega))))) (by first | omega | (simp <;> omega))
        have zA := hbA.size
        (try simp at zA)
        have HGA : Hid (Grow wA (w.heap.size + 1 + 1) 9 1 B t d (strs (ts.take t))) := Lib.hid (Grow.step hbA (by repeat (first | (with_reducible exact HG.out) | (with_reducible refine Grow.alloc ?_ _) | (with_reducible refine Grow.drewN ?_ _) | (with_reducible refine Grow.drew ?_) | ((with_reducible refine Grow.far ?_ ?_ _); rotate_left; (first | omega | (simp <;> omega))) | (with_reducible refine Grow.step (by assumption) ?_))))
        have HPA : Hid (Own wA w.heap.size 26 [.slice (some ⟨b, off, none⟩) p.1.length c, .slice A2 p.2.length c2]) := Lib.hid (Own.step hbA (by repeat (first | (with_reducible exact HP.out) | ((with_reducible refine Own.far ?_ ?_ _); rotate_left; (first | omega | (simp <;> omega))) | (with_reducible refine Own.alloc ?_ _) | (with_reducible refine Own.drewN ?_ _) | (with_reducible refine Own.drew ?_) | (with_reducible refine Own.step (by assumption) ?_))))
        have HQA : Hid (Own wA (w.heap.size + 1) 70 [.int .i64 op, str name, .int .i64 num, .slice (some ⟨b2, o2, none⟩) n cr]) := Lib.hid (Own.step hbA (by repeat (first | (with_reducible exact HQ.out) | ((with_reducible refine Own.far ?_ ?_ _); rotate_left; (first | omega | (simp <;> omega))) | (with_reducible refine Own.alloc ?_ _) | (with_reducible refine Own.drewN ?_ _) | (with_reducible refine Own.drew ?_) | (with_reducible refine Own.step (by assumption) ?_))))
        have hgA2 := HGA.out.ge
        clear hbA
        go_wp2_with (at_builtin; refine wpList_app (by rfl) _ _ 35 (by rfl) (w.heap.size + 1 + 1) 9 (.string ByteArray.empty) 1 16 Tryz.underlying35 T.infoString rfl (by decide) (xs := strs (ts.take t)) (by rfl) ?_ (ys := strs [y]) (by rfl) ?_ (strs_one _) ?_ ?_ ?_ ?_; (exact (by repeat (first | (with_reducible exact HGA.out) | (with_reducible refine Grow.alloc ?_ _) | (with_reducible refine Grow.drewN ?_ _) | (with_reducible refine Grow.drew ?_) | ((with_reducible refine Grow.far ?_ ?_ _); rotate_left; (first | omega | (simp <;> omega))) | (with_reducible refine Grow.step (by assumption) ?_)))); (exact (Grow.rs (base := 0) (n := 1) (c := 1) (by repeat (first | (with_reducible refine Grow.drewN ?_ _) | (with_reducible refine Grow.drew ?_) | (refine Grow.lit_at (by simp) (by rfl) (Nat.zero_le _) (by unfold maxLen; omega)))))); (unfold maxLen; omega); (omega); (first | omega | (simp <;> omega)); rintro A' c' w2 gA; have g1 := gA.1; have g2 := gA.2.1; rw [← HS.out] at g1; have HG1 := Lib.hid g1; have HB2 : Hid (Below w.heap.size w w2) := Lib.hid (Below.trans (Below.alloc bA (by omega) _) (g2.mono (by omega))); have HP2 : Hid (Own w2 w.heap.size 26 [.slice (some ⟨b, off, none⟩) p.1.length c, .slice A2 p.2.length c2]) := Lib.hid (Own.below (Own.alloc HPA.out _) g2 (by omega)); have HQ2 : Hid (Own w2 (w.heap.size + 1) 70 [.int .i64 op, str name, .int .i64 num, .slice (some ⟨b2, o2, none⟩) n cr]) := Lib.hid (Own.below (Own.alloc HQA.out _) g2 (by omega)); clear gA g1 g2)
        go_roundw
        case rel => exact ⟨t + 1, _, _, by omega, by go_num, rfl, HG1.out, HP2.out, HQ2.out, HB2.out⟩
        case measure => simp [RowKit.intOf] <;> omega
      · obtain rfl : t = n := by omega
        have HGE : Hid (Grow wo (w.heap.size + 1 + 1) 9 1 B t d (strs ts)) := Lib.hid (by have := HG.out; rw [List.take_of_length_le (by rw [HTN.out]; exact Nat.le_refl _)] at this; exact this)
        have HRS : Hid (RS wo 1 B t d (strs ts)) := Lib.hid HGE.out.rs
        clear HG
        rcases op8_cases HSH.out with ⟨rfl, rfl⟩ | ⟨rfl, rfl⟩ | ⟨rfl, rfl⟩ | ⟨rfl, h3⟩ | ⟨rfl, rfl⟩ | ⟨rfl, rfl⟩ | ⟨rfl, rfl⟩ | ⟨rfl, rfl⟩
        · obtain ⟨m, rfl, hm⟩ := HNM.out rfl
          have HC : Hid (∀ wx, Below w0.heap.size w0 wx → Calls Tryz.prog 41 #[.int .i64 m] wx fun e w' => e = .returned (str (numF (m : Int))) ∧ Below wx.heap.size wx w') := Lib.hid (fun wx hb => I_FormatNumber wx hm (HTA.out.step hb))
          have HB0 : Hid (Below w0.heap.size w0 wo) := Lib.hid (Below.step HBW.out HB.out HB.out.size)
          have HTF : Hid (TT = numF (m : Int)) := Lib.hid (by rw [← HTE.out, nodeT1])
          go_wp2_with (first | (go_at_call 41; (with_reducible refine (HC.out _ HB0.out).mono ?_); rintro e wA ⟨rfl, hbA⟩) | fail)
          go_ret
          exact ⟨by rw [HTF.out]; rfl, Below.step hbA HBW.out HBW.out.size⟩
        · have HTF : Hid (TT = name) := Lib.hid (by rw [← HTE.out, nodeT2])
          go_wp2_with fail
          go_ret
          exact ⟨by rw [HTF.out]; rfl, HBW.out⟩
        · obtain ⟨X, rfl⟩ := one_of HTN.out
          obtain ⟨g, o3, rfl, hgl, hcell⟩ := HRS.out.open_.2.2 (by omega)
          have e0 : wo.cell? ⟨g, o3, none⟩ = some (str X) := by have := hcell 0 (by omega); simpa using this
          rw [← HTE.out, nodeT3] at HTL
          have hlx : X.length ≤ 840 := by have := HTL.out; simp only [List.length_append, List.length_cons, List.length_nil] at this; omega
          have s1 : ¬ 9223372036854775807 < 2 + X.length := by omega
          have s2 : ¬ 9223372036854775807 < 2 + X.length + 1 := by omega
          clear hcell
          go_wp2_with fail
          go_ret
          refine ⟨?_, HBW.out⟩
          rw [← HTE.out, nodeT3]
          show Ending.returned (Value.string ((({ data := [40, 45].toArray } : ByteArray) ++ { data := X.toArray }) ++ { data := [41].toArray })) = _
          rw [str_cat, str_cat]
        · rw [← HTE.out, nodeT8] at HTL
          have HJ0 : Hid ((join ts [44, 32]).length ≤ 840) := Lib.hid (by have := HTL.out; simp only [List.length_append, List.length_cons, List.length_nil] at this; omega)
          have HJ : Hid (∀ wx, Below wo.heap.size wo wx → Calls Tryz.prog 42 #[.slice B t d, .string ⟨#[44, 32]⟩] wx fun e w' => e = .returned (str (join ts [44, 32])) ∧ Below wx.heap.size wx w') := Lib.hid (fun wx hb => by
            have hr := RS.step hb HRS.out
            have ht := HTN.out
            have hj := HJ0.out
            rcases Nat.eq_zero_or_pos t with h0 | h0
            · subst h0
              obtain rfl := List.length_eq_zero_iff.1 ht
              exact I_Join0 (sep := [44, 32]) wx
            · subst ht; exact I_Join (sep := [44, 32]) wx hr h0 (by omega) (by omega))
          have hnl : name.length ≤ 8 := HNL.out
          have hjl : (join ts [44, 32]).length ≤ 840 := HJ0.out
          obtain ⟨Y, hY⟩ : ∃ Y, join ts [44, 32] = Y := ⟨_, rfl⟩
          rw [hY] at HJ hjl
          have HYE := Lib.hid hY
          clear hY
          have s1 : ¬ 9223372036854775807 < name.length + 1 := by omega
          have s2 : ¬ 9223372036854775807 < name.length + 1 + Y.length := by omega
          have s3 : ¬ 9223372036854775807 < name.length + 1 + Y.length + 1 := by omega
          clear hnl hjl
          go_wp2_with fail
          go_region_held3 (fun w' => w'.cell? ⟨w.heap.size + 1, 1, none⟩ = some (str name))
            (first | go_keep | ((try dsimp only); go_simp; done))
            (first | (go_at_call 42; (with_reducible refine (HJ.out _ (by repeat (first | (with_reducible exact Below.refl _ _) | (with_reducible assumption) | ((with_reducible refine Below.alloc ?_ ?_ _); rotate_left; (first | omega | (simp <;> omega))) | ((with_reducible refine Below.setCell ?_ ?_ _); rotate_left; (first | omega | (simp <;> omega))) | (with_reducible refine below_drewN ?_ _) | (with_reducible refine Below.drew ?_) | ((with_reducible refine Below.step (by assumption) ?_ ?_); rotate_left; (first | omega | (simp <;> omega)))))).mono ?_); rintro e wA ⟨rfl, hbA⟩; have hzA := hbA.size; (try simp at hzA); (refine with_box hbA (w.heap.size + 1) ?_ ?_; (first | omega | (simp <;> omega)); intro n0 nf0 nz0)) | fail)
          all_goals
            go_wp2_with fail
            go_ret
            refine ⟨?_, (by repeat (first | (with_reducible exact Below.refl _ _) | (with_reducible exact HBW.out) | (with_reducible assumption) | ((with_reducible refine Below.alloc ?_ ?_ _); rotate_left; (first | omega | (simp <;> omega))) | ((with_reducible refine Below.setCell ?_ ?_ _); rotate_left; (first | omega | (simp <;> omega))) | (with_reducible refine below_drewN ?_ _) | (with_reducible refine Below.drew ?_) | ((with_reducible refine Below.step (by assumption) ?_ ?_); rotate_left; (first | omega | (simp <;> omega)))))⟩
            rw [← HTE.out, nodeT8, HYE.out]
            show Ending.returned (Value.string (((({ data := name.toArray } : ByteArray) ++ { data := [40].toArray }) ++ { data := Y.toArray }) ++ { data := [41].toArray })) = _
            rw [str_cat, str_cat, str_cat]
        · obtain ⟨X, Y, rfl⟩ := two_of HTN.out
          obtain ⟨g, o3, rfl, hgl, hcell⟩ := HRS.out.open_.2.2 (by omega)
          have e0 : wo.cell? ⟨g, o3, none⟩ = some (str X) := by have := hcell 0 (by omega); simpa using this
          have e1 : wo.cell? ⟨g, o3 + 1, none⟩ = some (str Y) := by have := hcell 1 (by omega); simpa using this
          rw [← HTE.out, nodeT4] at HTL
          have hlx : X.length + Y.length ≤ 840 := by have := HTL.out; simp only [List.length_append, List.length_cons, List.length_nil] at this; omega
          have s1 : ¬ 9223372036854775807 < 1 + X.length := by omega
          have s2 : ¬ 9223372036854775807 < 1 + X.length + 1 := by omega
          have s3 : ¬ 9223372036854775807 < 1 + X.length + 1 + 1 := by omega
          have s4 : ¬ 9223372036854775807 < 1 + X.length + 1 + 1 + 1 := by omega
          have s5 : ¬ 9223372036854775807 < 1 + X.length + 1 + 1 + 1 + Y.length := by omega
          have s6 : ¬ 9223372036854775807 < 1 + X.length + 1 + 1 + 1 + Y.length + 1 := by omega
          have ng1 : ¬ g = wo.heap.size := by omega
          clear hcell hlx
          go_wp2_with fail
          go_quiet ((first | (go_at_call 43; first | exact quiet_same (I_symbolOf4 _) | exact quiet_same0 (I_symbolOf4 _)) | fail))
          go_wp2_with fail
          go_ret
          refine ⟨?_, (by repeat (first | (with_reducible exact Below.refl _ _) | (with_reducible exact HBW.out) | (with_reducible assumption) | ((with_reducible refine Below.alloc ?_ ?_ _); rotate_left; (first | omega | (simp <;> omega))) | ((with_reducible refine Below.setCell ?_ ?_ _); rotate_left; (first | omega | (simp <;> omega))) | (with_reducible refine below_drewN ?_ _) | (with_reducible refine Below.drew ?_) | ((with_reducible refine Below.step (by assumption) ?_ ?_); rotate_left; (first | omega | (simp <;> omega)))))⟩
          rw [← HTE.out, nodeT4]
          show Ending.returned (Value.string ((((((({ data := [40].toArray } : ByteArray) ++ { data := X.toArray }) ++ { data := [32].toArray }) ++ { data := [43].toArray }) ++ { data := [32].toArray }) ++ { data := Y.toArray }) ++ { data := [41].toArray })) = _
          rw [str_cat, str_cat, str_cat, str_cat, str_cat, str_cat]
        · obtain ⟨X, Y, rfl⟩ := two_of HTN.out
          obtain ⟨g, o3, rfl, hgl, hcell⟩ := HRS.out.open_.2.2 (by omega)
          have e0 : wo.cell? ⟨g, o3, none⟩ = some (str X) := by have := hcell 0 (by omega); simpa using this
          have e1 : wo.cell? ⟨g, o3 + 1, none⟩ = some (str Y) := by have := hcell 1 (by omega); simpa using this
          rw [← HTE.out, nodeT5] at HTL
          have hlx : X.length + Y.length ≤ 840 := by have := HTL.out; simp only [List.length_append, List.length_cons, List.length_nil] at this; omega
          have s1 : ¬ 9223372036854775807 < 1 + X.length := by omega
          have s2 : ¬ 9223372036854775807 < 1 + X.length + 1 := by omega
          have s3 : ¬ 9223372036854775807 < 1 + X.length + 1 + 1 := by omega
          have s4 : ¬ 9223372036854775807 < 1 + X.length + 1 + 1 + 1 := by omega
          have s5 : ¬ 9223372036854775807 < 1 + X.length + 1 + 1 + 1 + Y.length := by omega
          have s6 : ¬ 9223372036854775807 < 1 + X.length + 1 + 1 + 1 + Y.length + 1 := by omega
          have ng1 : ¬ g = wo.heap.size := by omega
          clear hcell hlx
          go_wp2_with fail
          go_quiet ((first | (go_at_call 43; first | exact quiet_same (I_symbolOf5 _) | exact quiet_same0 (I_symbolOf5 _)) | fail))
          go_wp2_with fail
          go_ret
          refine ⟨?_, (by repeat (first | (with_reducible exact Below.refl _ _) | (with_reducible exact HBW.out) | (with_reducible assumption) | ((with_reducible refine Below.alloc ?_ ?_ _); rotate_left; (first | omega | (simp <;> omega))) | ((with_reducible refine Below.setCell ?_ ?_ _); rotate_left; (first | omega | (simp <;> omega))) | (with_reducible refine below_drewN ?_ _) | (with_reducible refine Below.drew ?_) | ((with_reducible refine Below.step (by assumption) ?_ ?_); rotate_left; (first | omega | (simp <;> omega)))))⟩
          rw [← HTE.out, nodeT5]
          show Ending.returned (Value.string ((((((({ data := [40].toArray } : ByteArray) ++ { data := X.toArray }) ++ { data := [32].toArray }) ++ { data := [45].toArray }) ++ { data := [32].toArray }) ++ { data := Y.toArray }) ++ { data := [41].toArray })) = _
          rw [str_cat, str_cat, str_cat, str_cat, str_cat, str_cat]
        · obtain ⟨X, Y, rfl⟩ := two_of HTN.out
          obtain ⟨g, o3, rfl, hgl, hcell⟩ := HRS.out.open_.2.2 (by omega)
          have e0 : wo.cell? ⟨g, o3, none⟩ = some (str X) := by have := hcell 0 (by omega); simpa using this
          have e1 : wo.cell? ⟨g, o3 + 1, none⟩ = some (str Y) := by have := hcell 1 (by omega); simpa using this
          rw [← HTE.out, nodeT6] at HTL
          have hlx : X.length + Y.length ≤ 840 := by have := HTL.out; simp only [List.length_append, List.length_cons, List.length_nil] at this; omega
          have s1 : ¬ 9223372036854775807 < 1 + X.length := by omega
          have s2 : ¬ 9223372036854775807 < 1 + X.length + 1 := by omega
          have s3 : ¬ 9223372036854775807 < 1 + X.length + 1 + 1 := by omega
          have s4 : ¬ 9223372036854775807 < 1 + X.length + 1 + 1 + 1 := by omega
          have s5 : ¬ 9223372036854775807 < 1 + X.length + 1 + 1 + 1 + Y.length := by omega
          have s6 : ¬ 9223372036854775807 < 1 + X.length + 1 + 1 + 1 + Y.length + 1 := by omega
          have ng1 : ¬ g = wo.heap.size := by omega
          clear hcell hlx
          go_wp2_with fail
          go_quiet ((first | (go_at_call 43; first | exact quiet_same (I_symbolOf6 _) | exact quiet_same0 (I_symbolOf6 _)) | fail))
          go_wp2_with fail
          go_ret
          refine ⟨?_, (by repeat (first | (with_reducible exact Below.refl _ _) | (with_reducible exact HBW.out) | (with_reducible assumption) | ((with_reducible refine Below.alloc ?_ ?_ _); rotate_left; (first | omega | (simp <;> omega))) | ((with_reducible refine Below.setCell ?_ ?_ _); rotate_left; (first | omega | (simp <;> omega))) | (with_reducible refine below_drewN ?_ _) | (with_reducible refine Below.drew ?_) | ((with_reducible refine Below.step (by assumption) ?_ ?_); rotate_left; (first | omega | (simp <;> omega)))))⟩
          rw [← HTE.out, nodeT6]
          show Ending.returned (Value.string ((((((({ data := [40].toArray } : ByteArray) ++ { data := X.toArray }) ++ { data := [32].toArray }) ++ { data := [42].toArray }) ++ { data := [32].toArray }) ++ { data := Y.toArray }) ++ { data := [41].toArray })) = _
          rw [str_cat, str_cat, str_cat, str_cat, str_cat, str_cat]
        · obtain ⟨X, Y, rfl⟩ := two_of HTN.out
          obtain ⟨g, o3, rfl, hgl, hcell⟩ := HRS.out.open_.2.2 (by omega)
          have e0 : wo.cell? ⟨g, o3, none⟩ = some (str X) := by have := hcell 0 (by omega); simpa using this
          have e1 : wo.cell? ⟨g, o3 + 1, none⟩ = some (str Y) := by have := hcell 1 (by omega); simpa using this
          rw [← HTE.out, nodeT7] at HTL
          have hlx : X.length + Y.length ≤ 840 := by have := HTL.out; simp only [List.length_append, List.length_cons, List.length_nil] at this; omega
          have s1 : ¬ 9223372036854775807 < 1 + X.length := by omega
          have s2 : ¬ 9223372036854775807 < 1 + X.length + 1 := by omega
          have s3 : ¬ 9223372036854775807 < 1 + X.length + 1 + 1 := by omega
          have s4 : ¬ 9223372036854775807 < 1 + X.length + 1 + 1 + 1 := by omega
          have s5 : ¬ 9223372036854775807 < 1 + X.length + 1 + 1 + 1 + Y.length := by omega
          have s6 : ¬ 9223372036854775807 < 1 + X.length + 1 + 1 + 1 + Y.length + 1 := by omega
          have ng1 : ¬ g = wo.heap.size := by omega
          clear hcell hlx
          go_wp2_with fail
          go_quiet ((first | (go_at_call 43; first | exact quiet_same (I_symbolOf7 _) | exact quiet_same0 (I_symbolOf7 _)) | fail))
          go_wp2_with fail
          go_ret
          refine ⟨?_, (by repeat (first | (with_reducible exact Below.refl _ _) | (with_reducible exact HBW.out) | (with_reducible assumption) | ((with_reducible refine Below.alloc ?_ ?_ _); rotate_left; (first | omega | (simp <;> omega))) | ((with_reducible refine Below.setCell ?_ ?_ _); rotate_left; (first | omega | (simp <;> omega))) | (with_reducible refine below_drewN ?_ _) | (with_reducible refine Below.drew ?_) | ((with_reducible refine Below.step (by assumption) ?_ ?_); rotate_left; (first | omega | (simp <;> omega)))))⟩
          rw [← HTE.out, nodeT7]
          show Ending.returned (Value.string ((((((({ data := [40].toArray } : ByteArray) ++ { data := X.toArray }) ++ { data := [32].toArray }) ++ { data := [47].toArray }) ++ { data := [32].toArray }) ++ { data := Y.toArray }) ++ { data := [41].toArray })) = _
          rw [str_cat, str_cat, str_cat, str_cat, str_cat, str_cat]
end Go.Proofs.YtnlbojckobgjpaaGreatDoor
