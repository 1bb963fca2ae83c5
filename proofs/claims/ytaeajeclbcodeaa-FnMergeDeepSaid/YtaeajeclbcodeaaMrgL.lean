/- MADE BY PROGRAM (genmrgl.py). The closures of the program's MergeDeep. -/
import Derived.Test.YtaeajeclbcodeaaDeepOfI
import Derived.Test.YtaeajeclbcodeaaDeepT
import Derived.Test.YtaeajeclbcodeaaCopies
import Derived.Test.YtaeajeclbcodeaaCursor
import Derived.Test.YtaeajeclbcodeaaMrgP
import Derived.Laws.EntriesVeiled
namespace Go.Proofs.Ytaeajeclbcodeaa
open Go.RowKit
set_option linter.unusedVariables false
set_option maxRecDepth 100000
set_option maxHeartbeats 400000 in
theorem I_light2 {x d : Int} {a : Addr} (w : World) (h : w.cell? a = some (.int .i64 d)) :
    Calls Try.prog 68 #[.int .i64 x, .pointer (some a)] w fun e w' => e = .returned (.bool (upto d x)) ∧ w = w' := by
  go_enter Try.func68, Try.ntmps68
  go_wp2
  go_ret
  exact ⟨rfl, rfl⟩
set_option maxHeartbeats 1000000 in
theorem I_transmittanceU {A : Option Addr} {c : Nat} {l : List EDeepStep} {d : Int} {g : Nat} (w : World) (h : RS w 2 A l.length c (rDeepStep l)) (hg : w.cell? ⟨g, 0, none⟩ = some (.int .i64 d)) :
    Calls Try.prog 51 #[.slice A l.length c, .func (.func 68) #[] #[.pointer (some ⟨g, 0, none⟩)]] w fun e w' => e = .returned (.int .i64 (lastW (upto d) l)) ∧ Below w.heap.size w w' := by
  obtain ⟨hn, hc, hr⟩ := h.open_
  unfold maxLen at hc
  have HR := Lib.hid hr
  have HG := Lib.hid hg
  have hgl : g < w.heap.size := block_lt_of_cell hg
  have hb := Below.refl w.heap.size w
  clear hr h hg
  go_enter Try.func51, Try.ntmps51
  go_wp2
  go_loopw [5, 7, 10] (fun v _ i wr => ∃ k : Nat, k ≤ l.length ∧ i = .int .i64 k ∧ v = .int .i64 (lastW (upto d) (l.take k)) ∧ Below w.heap.size w wr) (fun _ _ i _ => l.length - (intOf i).toNat)
  case atStart => exact ⟨0, Nat.zero_le _, rfl, rfl, hb⟩
  case round =>
    obtain ⟨k, hk, rfl, rfl, hbr⟩ := hrel
    have HB := Lib.hid hbr
    clear hb hbr
    by_cases hlt : k < l.length
    · obtain ⟨b, o, rfl, hbh, hcell⟩ := HR.out (by omega)
      obtain ⟨q0, q1⟩ := rDeepStep_at (l := l) hlt
      have d0 : wr.cell? ⟨b, o + k * 2, none⟩ = some (.int .i64 l[k].1) := by rw [(bcell HB.out).1 _ _ (by omega), hcell _ (by omega), q0]
      have d1 : wr.cell? ⟨b, o + k * 2 + 1, none⟩ = some (.int .i64 l[k].2) := by rw [(bcell HB.out).1 _ _ (by omega), show o + k * 2 + 1 = o + (k * 2 + 1) by omega, hcell _ (by omega), q1]
      have HL := Lib.hid (lastW_take (upto d) hlt)
      have hc1 : ∀ o, (wr.alloc o).cell? ⟨g, 0, none⟩ = some (.int .i64 d) := fun o => by rw [World.cell?_alloc_lt _ _ _ (Nat.lt_of_lt_of_le hgl HB.out.size), (bcell HB.out).1 _ _ hgl, HG.out]
      clear q0 q1 hcell
      generalize lastW (upto d) (l.take k) = V at *
      by_cases hd : upto d l[k].1 = true
      · go_wp2_with (go_at_call 68; refine (I_light2 _ (hc1 _)).mono ?_; rintro e w' ⟨rfl, rfl⟩)
        go_roundw
        case rel => exact ⟨k + 1, by omega, by go_num, by rw [HL.out]; simp [hd], HB.out.alloc HB.out.size _⟩
        case measure => simp [intOf]; omega
      · have hd' : upto d l[k].1 = false := by simpa using hd
        clear hd
        go_wp2_with (go_at_call 68; refine (I_light2 _ (hc1 _)).mono ?_; rintro e w' ⟨rfl, rfl⟩)
        go_roundw
        case rel => exact ⟨k + 1, by omega, by go_num, by rw [HL.out]; simp [hd'], HB.out.alloc HB.out.size _⟩
        case measure => simp [intOf]; omega
    · go_wp2
      go_ret
      obtain rfl : k = l.length := by omega
      exact ⟨ret_int (by rw [List.take_of_length_le (Nat.le_refl _)]), HB.out⟩
set_option maxHeartbeats 1000000 in
theorem I_light1 {A : Option Addr} {c g : Nat} {l : List EDeepStep} {d : Int} (w : World) (h : RS w 2 A l.length c (rDeepStep l)) (hg : w.cell? ⟨g, 0, none⟩ = some (.slice A l.length c)) :
    Calls Try.prog 67 #[.int .i64 d, .pointer (some ⟨g, 0, none⟩)] w fun e w' => e = .returned (.int .i64 (lastW (upto d) l)) ∧ Below w.heap.size w w' := by
  have hmf : ∀ (fn : Fn) (first cap : Array Value) (w : World), (Instr.makeFunc fn first cap).run Try.prog w = .ok (.func fn first cap) w := fun _ _ _ _ => rfl
  have hgl : g < w.heap.size := block_lt_of_cell hg
  have hc1 : ∀ o, (w.alloc o).cell? ⟨g, 0, none⟩ = some (.slice A l.length c) := fun o => by rw [World.cell?_alloc_lt _ _ _ hgl, hg]
  have HH := Lib.hid h
  clear h
  go_enter Try.func67, Try.ntmps67
  go_wp2_with fail
  refine (I_transmittanceU (d := d) _ (RS.step (by repeat (first | (with_reducible exact Below.refl _ _) | (with_reducible assumption) | ((with_reducible refine Below.alloc ?_ ?_ _); rotate_left; (first | omega | (simp <;> omega))) | ((with_reducible refine Below.setCell ?_ ?_ _); rotate_left; (first | omega | (simp <;> omega))) | (with_reducible refine below_drewN ?_ _) | (with_reducible refine Below.drew ?_) | ((with_reducible refine Below.step (by assumption) ?_ ?_); rotate_left; (first | omega | (simp <;> omega))))) HH.out) (by simp [go_sem])).mono ?_
  rintro e w1 ⟨rfl, hb⟩
  have hz := hb.size
  (try simp at hz)
  go_wp2
  go_ret
  exact ⟨rfl, (by repeat (first | (with_reducible exact Below.refl _ _) | (with_reducible assumption) | ((with_reducible refine Below.alloc ?_ ?_ _); rotate_left; (first | omega | (simp <;> omega))) | ((with_reducible refine Below.setCell ?_ ?_ _); rotate_left; (first | omega | (simp <;> omega))) | (with_reducible refine below_drewN ?_ _) | (with_reducible refine Below.drew ?_) | ((with_reducible refine Below.step (by assumption) ?_ ?_); rotate_left; (first | omega | (simp <;> omega)))))⟩
set_option maxHeartbeats 1000000 in
theorem I_lightOf {A : Option Addr} {n c : Nat} (w : World) :
    Calls Try.prog 39 #[.slice A n c] w fun e w' => ∃ g, e = .returned (.agg #[.func (.func 67) #[] #[.pointer (some ⟨g, 0, none⟩)]]) ∧ w.heap.size ≤ g ∧ g < w'.heap.size ∧ w'.cell? ⟨g, 0, none⟩ = some (.slice A n c) ∧ Below w.heap.size w w' := by
  have hmf : ∀ (fn : Fn) (first cap : Array Value) (w : World), (Instr.makeFunc fn first cap).run Try.prog w = .ok (.func fn first cap) w := fun _ _ _ _ => rfl
  go_enter Try.func39, Try.ntmps39
  go_wp2
  refine bodyPost_ret (v := .agg #[.func (.func 67) #[] #[.pointer (some ⟨w.heap.size, 0, none⟩)]]) (by simp [results, Try.results39, go_sem, *]) rfl ⟨w.heap.size, rfl, Nat.le_refl _, by simp; try omega, by simp [go_sem], (by repeat (first | (with_reducible exact Below.refl _ _) | (with_reducible assumption) | ((with_reducible refine Below.alloc ?_ ?_ _); rotate_left; (first | omega | (simp <;> omega))) | ((with_reducible refine Below.setCell ?_ ?_ _); rotate_left; (first | omega | (simp <;> omega))) | (with_reducible refine below_drewN ?_ _) | (with_reducible refine Below.drew ?_) | ((with_reducible refine Below.step (by assumption) ?_ ?_); rotate_left; (first | omega | (simp <;> omega)))))⟩
set_option maxHeartbeats 1000000 in
theorem G_CloneDS {A : Option Addr} {c : Nat} {l : List EDeepStep} (w : World) (hs : l.length ≤ 1048576) (h : RS w 2 A l.length c (rDeepStep l)) :
    Calls Try.prog 37 #[.slice A l.length c] w (fun e w' => ∃ P k, e = .returned (.slice P l.length k) ∧ Grow w' w.heap.size 61 2 P l.length k (rDeepStep l) ∧ Below w.heap.size w w') := by
  have H0 := Lib.hid h
  have heq := fun (wx : World) => Lib.run_eql_slice_nil (P := Try.prog) wx 37 61 A l.length c 0 0 Try.underlying37
  rcases A with _ | a
  · have h0 : l.length = 0 := by
      rcases Nat.eq_zero_or_pos l.length with h0 | h0
      · exact h0
      · obtain ⟨b, o, hA, _⟩ := h.open_.2.2 h0; cases hA
    obtain rfl : l = [] := List.eq_nil_of_length_eq_zero h0
    clear h h0
    simp only [List.length_nil, Option.isNone_none] at heq
    go_enter Try.func37, Try.ntmps37
    go_wp2
    go_ret
    exact ⟨none, 0, rfl, Grow.nil _ _ _ _, (by repeat (first | (with_reducible exact Below.refl _ _) | (with_reducible assumption) | ((with_reducible refine Below.alloc ?_ ?_ _); rotate_left; (first | omega | (simp <;> omega))) | ((with_reducible refine Below.setCell ?_ ?_ _); rotate_left; (first | omega | (simp <;> omega))) | (with_reducible refine below_drewN ?_ _) | (with_reducible refine Below.drew ?_) | ((with_reducible refine Below.step (by assumption) ?_ ?_); rotate_left; (first | omega | (simp <;> omega)))))⟩
  · clear h
    have HR := Lib.hid (RS.alloc H0.out (.cells #[] 61))
    have HG : Hid (Grow (w.alloc (.cells #[] 61)) w.heap.size 61 2 (some ⟨w.heap.size, 0, none⟩) 0 0 []) := Grow.lit w #[] 0 rfl (Nat.le_refl _) (Nat.zero_le _)
    go_enter Try.func37, Try.ntmps37
    go_wp2_with (at_builtin; refine wpList_app (by rfl) _ _ 37 (by rfl) (w.heap.size) 61 (.agg #[.int .i64 0, .int .i64 0]) 2 16 Try.underlying37 T.infoDeepStep rfl (by decide) (xs := []) (by rfl) ?_ (ys := rDeepStep l) (by rfl) ?_ (rDeepStep_one _) ?_ ?_ ?_ ?_; (exact (by repeat (first | (with_reducible exact HG.out) | (with_reducible refine Grow.alloc ?_ _) | (with_reducible refine Grow.drewN ?_ _) | (with_reducible refine Grow.drew ?_) | ((with_reducible refine Grow.far ?_ ?_ _); rotate_left; (first | omega | (simp <;> omega))) | (with_reducible refine Grow.step (by assumption) ?_)))); (exact HR.out); (unfold maxLen; omega); (omega); (first | omega | (simp <;> omega)); rintro A' c' w2 gA; have HA := Lib.hid gA; clear gA)
    go_ret
    have g := HA.out
    have g1 := g.1
    simp only [List.nil_append, Nat.zero_add] at g1 ⊢
    exact ⟨_, _, rfl, g1, Below.trans (by repeat (first | (with_reducible exact Below.refl _ _) | (with_reducible assumption) | ((with_reducible refine Below.alloc ?_ ?_ _); rotate_left; (first | omega | (simp <;> omega))) | ((with_reducible refine Below.setCell ?_ ?_ _); rotate_left; (first | omega | (simp <;> omega))) | (with_reducible refine below_drewN ?_ _) | (with_reducible refine Below.drew ?_) | ((with_reducible refine Below.step (by assumption) ?_ ?_); rotate_left; (first | omega | (simp <;> omega))))) g.2.1⟩
theorem Appended.only {w w' : World} {base : Nat} {e : TypeId} {size n n' c' : Nat} {A A' : Option Addr} {xs : List Value} (h : Appended w base e size A n xs A' n' c' w') : Only w.heap.size (gOf A) w w' :=
  ⟨h.2.1.os, h.2.1.tape, h.2.1.output, h.2.2.2.1, fun b hb hA => h.2.2.1.block b hb (by cases A <;> simp_all [gOf])⟩
set_option maxHeartbeats 4000000 in
theorem I_deeperO {A : Option Addr} {c base : Nat} {l : List EDeepStep} {d v : Int} (w : World) (h64 : l.length ≤ 64) (hbase : base ≤ w.heap.size) (h : Grow w base 61 2 A l.length c (rDeepStep l)) :
    Calls Try.prog 41 #[.slice A l.length c, .int .i64 d, .int .i64 v] w fun e w' => ∃ A' c', e = .returned (.slice A' (deeperF l d v).length c') ∧ Grow w' base 61 2 A' (deeperF l d v).length c' (rDeepStep (deeperF l d v)) ∧ Below base w w' ∧ Only w.heap.size (gOf A) w w' ∧ (∀ x, x ∈ gOf A' → x ∈ gOf A ∨ w.heap.size ≤ x) := by
  have HG := Lib.hid h
  clear h
  by_cases h1 : v < lastWt l
  · by_cases h2 : l.length < 64
    · have HD : Hid (deeperF l d v = l ++ [(d, v)]) := by show _ = _; unfold deeperF; rw [if_pos (by simp [h1]; omega)]
      have h2' : (l.length : Int) < 64 := by omega
      go_enter Try.func41, Try.ntmps41
      go_wp2_with (first | (go_at_call 69; refine (I_lastWeight _ rfl HG.out.rs).mono ?_; rintro e w' ⟨rfl, rfl⟩) | (at_builtin; refine wpList_app (by rfl) _ _ 37 (by rfl) (base) 61 (.agg #[.int .i64 0, .int .i64 0]) 2 16 Try.underlying37 T.infoDeepStep rfl (by decide) (xs := rDeepStep l) (by rfl) ?_ (ys := rDeepStep [(d, v)]) (by rfl) ?_ (rDeepStep_one _) ?_ ?_ ?_ ?_; (exact (by repeat (first | (with_reducible exact HG.out) | (with_reducible refine Grow.alloc ?_ _) | (with_reducible refine Grow.drewN ?_ _) | (with_reducible refine Grow.drew ?_) | ((with_reducible refine Grow.far ?_ ?_ _); rotate_left; (first | omega | (simp <;> omega))) | (with_reducible refine Grow.step (by assumption) ?_)))); (exact (Grow.rs (base := 0) (n := 1) (c := 1) (by repeat (first | (with_reducible refine Grow.drewN ?_ _) | (with_reducible refine Grow.drew ?_) | (refine Grow.lit_at (by simp) (by rfl) (Nat.zero_le _) (by unfold maxLen; omega)))))); (unfold maxLen; omega); (omega); (first | omega | (simp <;> omega)); rintro A' c' w2 gA))
      go_ret
      have g1 := gA.1
      rw [rDeepStep_snoc, ← HD.out] at g1
      have hL : l.length + 1 = (deeperF l d v).length := by rw [HD.out]; simp
      rw [← hL]
      exact ⟨A', c', rfl, g1, Below.trans (Below.alloc (Below.refl _ _) hbase _) gA.2.1, Only.trans (Only.alloc (Only.refl _ _ _) (Nat.le_refl _) _) (Only.mono gA.only (by simp) (fun x hx => .inl hx)) (Nat.le_refl _) (fun x hx => hx), fun x hx => gA.2.2.2.2.elim (fun h => .inl (by rw [h] at hx; exact hx)) (fun h => .inr (by rw [h] at hx; simp at hx; omega))⟩
    · have HD : Hid (deeperF l d v = l) := by show _ = _; unfold deeperF; rw [if_neg (by simp; omega)]
      have h2' : ¬ (l.length : Int) < 64 := by omega
      go_enter Try.func41, Try.ntmps41
      go_wp2_with (first | (go_at_call 69; refine (I_lastWeight _ rfl HG.out.rs).mono ?_; rintro e w' ⟨rfl, rfl⟩))
      go_ret
      rw [HD.out]
      exact ⟨A, c, rfl, HG.out, Below.refl _ _, Only.refl _ _ _, fun x hx => .inl hx⟩
  · have HD : Hid (deeperF l d v = l) := by show _ = _; unfold deeperF; rw [if_neg (by simp [h1])]
    go_enter Try.func41, Try.ntmps41
    go_wp2_with (first | (go_at_call 69; refine (I_lastWeight _ rfl HG.out.rs).mono ?_; rintro e w' ⟨rfl, rfl⟩))
    go_ret
    rw [HD.out]
    exact ⟨A, c, rfl, HG.out, Below.refl _ _, Only.refl _ _ _, fun x hx => .inl hx⟩
end Go.Proofs.Ytaeajeclbcodeaa
