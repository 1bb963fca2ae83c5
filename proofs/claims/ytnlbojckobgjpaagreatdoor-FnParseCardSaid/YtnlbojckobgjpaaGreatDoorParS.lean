/- The reference's parser: its small functions. -/
import Derived.Test.YtnlbojckobgjpaaGreatDoorParM
import Derived.BigQuiet
import Derived.Deep.QuietTactic
import Derived.StillTailTactics
set_option linter.unusedVariables false
set_option linter.unusedSimpArgs false
namespace Go.Proofs.YtnlbojckobgjpaaGreatDoor
open Go.RowKit Go.Lib
set_option maxRecDepth 100000
/-- The reference's parser between two calls. -/
def SpSt (w : World) (B base : Nat) (TA : Option Addr) (tc : Nat) (Ts : List ETok) (AA : Option Addr) (ac : Nat) (as_ : List EAssign) (X : List Nat) (a : Nat) (NA : Option Addr) (nc : Nat) (ns : List ENode) (bad : Int) : Prop :=
  Own w B 77 [.slice TA Ts.length tc, .int .i64 a, .slice NA ns.length nc, .slice AA as_.length ac, .int .i64 bad] ∧ PMem w B base TA tc Ts AA ac as_ X NA nc ns
/-- What a function of the parser leaves. -/
def PGo (B base : Nat) (TA : Option Addr) (tc : Nat) (Ts : List ETok) (AA : Option Addr) (ac : Nat) (as_ : List EAssign) (X : List Nat) (NA : Option Addr) (r : PR) (w : World) (e : Ending) (w' : World) : Prop :=
  match r with
  | .ok v a ns => ∃ NA' nc', e = .returned (.int .i64 v) ∧ SpSt w' B base TA tc Ts AA ac as_ X a NA' nc' ns (-1) ∧ Only w.heap.size (B :: gOf NA) w w' ∧ (∀ x, x ∈ gOf NA' → x ∈ gOf NA ∨ w.heap.size ≤ x)
  | .bad o => ∃ (r : Int) (c0 c1 c2 c3 : Value), e = .returned (.int .i64 r) ∧ Own w' B 77 [c0, c1, c2, c3, .int .i64 o] ∧ 0 ≤ o ∧ Only w.heap.size (B :: gOf NA) w w'
  | .out => False
section
variable {w w' : World} {B base : Nat} {TA : Option Addr} {tc : Nat} {Ts : List ETok} {AA : Option Addr} {ac : Nat} {as_ : List EAssign} {X : List Nat} {NA : Option Addr} {nc : Nat} {ns : List ENode} {a : Nat} {bad : Int}
theorem SpSt.step (hb : Below w.heap.size w w') (h : SpSt w B base TA tc Ts AA ac as_ X a NA nc ns bad) : SpSt w' B base TA tc Ts AA ac as_ X a NA nc ns bad := ⟨h.1.step hb, h.2.step hb⟩
theorem SpSt.alloc (h : SpSt w B base TA tc Ts AA ac as_ X a NA nc ns bad) (o : Obj) : SpSt (w.alloc o) B base TA tc Ts AA ac as_ X a NA nc ns bad := h.step ((Below.refl _ _).alloc (Nat.le_refl _) o)
theorem SpSt.drew (h : SpSt w B base TA tc Ts AA ac as_ X a NA nc ns bad) : SpSt w.drew B base TA tc Ts AA ac as_ X a NA nc ns bad := ⟨h.1.drew, h.2.drew⟩
theorem SpSt.drewN (h : SpSt w B base TA tc Ts AA ac as_ X a NA nc ns bad) (n : Nat) : SpSt (w.drewN n) B base TA tc Ts AA ac as_ X a NA nc ns bad := ⟨h.1.drewN n, h.2.keep (Nat.le_refl _) (fun _ _ _ => rfl)⟩
theorem SpSt.setAt (h : SpSt w B base TA tc Ts AA ac as_ X a NA nc ns bad) (a' : Nat) : SpSt (w.setCell ⟨B, 1, none⟩ (.int .i64 a')) B base TA tc Ts AA ac as_ X a' NA nc ns bad := ⟨h.1.set_ 1 _, h.2.set_ 1 _⟩
theorem SpSt.setBad (h : SpSt w B base TA tc Ts AA ac as_ X a NA nc ns bad) (b' : Int) : SpSt (w.setCell ⟨B, 4, none⟩ (.int .i64 b')) B base TA tc Ts AA ac as_ X a NA nc ns b' := ⟨h.1.set_ 4 _, h.2.set_ 4 _⟩
theorem SpSt.cells (h : SpSt w B base TA tc Ts AA ac as_ X a NA nc ns bad) : B < w.heap.size ∧ w.cell? ⟨B, 0, none⟩ = some (.slice TA Ts.length tc) ∧ w.cell? ⟨B, 1, none⟩ = some (.int .i64 a) ∧ w.cell? ⟨B, 2, none⟩ = some (.slice NA ns.length nc) ∧ w.cell? ⟨B, 3, none⟩ = some (.slice AA as_.length ac) ∧ w.cell? ⟨B, 4, none⟩ = some (.int .i64 bad) ∧ ∀ o, w.frozen? ⟨B, o, none⟩ = false :=
  ⟨h.1.lt, h.1.cell 0, h.1.cell 1, h.1.cell 2, h.1.cell 3, h.1.cell 4, h.1.frozen⟩
end
set_option maxHeartbeats 4000000 in
theorem S_l13Peek {B base : Nat} {TA : Option Addr} {tc : Nat} {Ts : List ETok} {AA : Option Addr} {ac : Nat} {as_ : List EAssign} {X : List Nat} {NA : Option Addr} {nc : Nat} {ns : List ENode} {a : Nat} {bad : Int} (w : World)
    (h : SpSt w B base TA tc Ts AA ac as_ X a NA nc ns bad) (ha : a < Ts.length) :
    Calls Tryz.prog 59 #[.pointer (some ⟨B, 0, none⟩)] w fun e w' => e = .returned (str (pk Ts a)) ∧ Below w.heap.size w w' := by
  obtain ⟨hB, h0, h1, _, _, _, _⟩ := h.cells
  obtain ⟨ht1, ht2, b, o, rfl, hb, hbB, t0, t1, t2, t3⟩ := h.2.tokAt ha
  unfold maxLen at ht2
  have ha' : (a : Int) < Ts.length := by omega
  have hpk : Hid (pk Ts a = if kd Ts a = 3 then tx Ts a else []) := Lib.hid rfl
  generalize kd Ts a = k at *
  generalize tx Ts a = x at *
  generalize nm Ts a = n at *
  generalize of_ Ts a = f at *
  clear h
  by_cases hk : k = 3
  · subst hk
    have HP : Hid (pk Ts a = x) := Lib.hid (by rw [hpk.out, if_pos rfl])
    go_enter Tryz.func59, Tryz.ntmps59
    go_wp2_with fail
    go_region_held3 (fun w' => w'.cell? ⟨B, 0, none⟩ = some (.slice (some ⟨b, o, none⟩) Ts.length tc) ∧ w'.cell? ⟨B, 1, none⟩ = some (.int .i64 a) ∧ w'.cell? ⟨b, o + a * 4, none⟩ = some (.int .i64 3) ∧ w'.cell? ⟨b, o + a * 4 + 1, none⟩ = some (str x) ∧ w'.cell? ⟨b, o + a * 4 + 2, none⟩ = some (.int .i64 n) ∧ w'.cell? ⟨b, o + a * 4 + 3, none⟩ = some (.int .i64 f))
      (first | ((try dsimp only); refine ⟨?_, ?_, ?_, ?_, ?_, ?_⟩ <;> (go_simp; done)) | go_keep)
      (fail)
    all_goals
      go_wp2_with fail
      go_ret
      rw [HP.out]
      exact ⟨rfl, (by repeat (first | (with_reducible exact Below.refl _ _) | (with_reducible assumption) | ((with_reducible refine Below.alloc ?_ ?_ _); rotate_left; (first | omega | (simp <;> omega))) | ((with_reducible refine Below.setCell ?_ ?_ _); rotate_left; (first | omega | (simp <;> omega))) | (with_reducible refine below_drewN ?_ _) | (with_reducible refine Below.drew ?_) | ((with_reducible refine Below.step (by assumption) ?_ ?_); rotate_left; (first | omega | (simp <;> omega)))))⟩
  · have HP : Hid (pk Ts a = []) := Lib.hid (by rw [hpk.out, if_neg hk])
    have hk' : (k == 3) = false := by simpa using hk
    go_enter Tryz.func59, Tryz.ntmps59
    go_wp2_with fail
    go_region_held3 (fun w' => w'.cell? ⟨B, 0, none⟩ = some (.slice (some ⟨b, o, none⟩) Ts.length tc) ∧ w'.cell? ⟨B, 1, none⟩ = some (.int .i64 a) ∧ w'.cell? ⟨b, o + a * 4, none⟩ = some (.int .i64 k) ∧ w'.cell? ⟨b, o + a * 4 + 1, none⟩ = some (str x) ∧ w'.cell? ⟨b, o + a * 4 + 2, none⟩ = some (.int .i64 n) ∧ w'.cell? ⟨b, o + a * 4 + 3, none⟩ = some (.int .i64 f))
      (first | ((try dsimp only); refine ⟨?_, ?_, ?_, ?_, ?_, ?_⟩ <;> (go_simp; done)) | go_keep)
      (fail)
    all_goals
      go_wp2_with fail
      go_ret
      rw [HP.out]
      exact ⟨rfl, (by repeat (first | (with_reducible exact Below.refl _ _) | (with_reducible assumption) | ((with_reducible refine Below.alloc ?_ ?_ _); rotate_left; (first | omega | (simp <;> omega))) | ((with_reducible refine Below.setCell ?_ ?_ _); rotate_left; (first | omega | (simp <;> omega))) | (with_reducible refine below_drewN ?_ _) | (with_reducible refine Below.drew ?_) | ((with_reducible refine Below.step (by assumption) ?_ ?_); rotate_left; (first | omega | (simp <;> omega)))))⟩
set_option maxHeartbeats 4000000 in
theorem S_l13Fail {B base : Nat} {TA : Option Addr} {tc : Nat} {Ts : List ETok} {AA : Option Addr} {ac : Nat} {as_ : List EAssign} {X : List Nat} {NA : Option Addr} {nc : Nat} {ns : List ENode} {a : Nat} (w : World)
    (h : SpSt w B base TA tc Ts AA ac as_ X a NA nc ns (-1)) (ha : a < Ts.length) :
    Calls Tryz.prog 28 #[.pointer (some ⟨B, 0, none⟩)] w fun e w' => e = .returned (.int .i64 0) ∧ w' = (w.setCell ⟨B, 4, none⟩ (.int .i64 (of_ Ts a))).drew := by
  obtain ⟨hB, h0, h1, _, _, h4, hf⟩ := h.cells
  obtain ⟨ht1, ht2, b, o, rfl, hb, hbB, t0, t1, t2, t3⟩ := h.2.tokAt ha
  unfold maxLen at ht2
  have ha' : (a : Int) < Ts.length := by omega
  generalize of_ Ts a = f at *
  clear h
  go_enter Tryz.func28, Tryz.ntmps28
  go_wp2_with fail
  go_still_tail 14, (by kernel_rfl)
  go_wp2_with fail
  go_ret
  exact ⟨rfl, rfl⟩
set_option maxHeartbeats 1000000 in
theorem S_l13Op (x : List UInt8) (add : Bool) (w : World) : Calls Tryz.prog 88 #[str x, .bool add] w fun e w' => e = .returned (.int .i64 (opS add x)) ∧ w = w' := by
  cases add with
  | true =>
    by_cases h1 : x = [43]
    · subst h1
      go_enter Tryz.func88, Tryz.ntmps88
      go_wp2_with fail
      go_ret
      exact ⟨rfl, rfl⟩
    · by_cases h2 : x = [45]
      · subst h2
        go_enter Tryz.func88, Tryz.ntmps88
        go_wp2_with fail
        go_ret
        exact ⟨rfl, rfl⟩
      · have e1 : (x == [43]) = false := by simpa using h1
        have e2 : (x == [45]) = false := by simpa using h2
        have HO : Hid (opS true x = 0) := Lib.hid (by simp [opS, h1, h2])
        clear h1 h2
        go_enter Tryz.func88, Tryz.ntmps88
        go_wp2_with fail
        go_ret
        rw [HO.out]
        exact ⟨rfl, rfl⟩
  | false =>
    by_cases h1 : x = [42]
    · subst h1
      go_enter Tryz.func88, Tryz.ntmps88
      go_wp2_with fail
      go_ret
      exact ⟨rfl, rfl⟩
    · by_cases h2 : x = [47]
      · subst h2
        go_enter Tryz.func88, Tryz.ntmps88
        go_wp2_with fail
        go_ret
        exact ⟨rfl, rfl⟩
      · have e1 : (x == [42]) = false := by simpa using h1
        have e2 : (x == [47]) = false := by simpa using h2
        have HO : Hid (opS false x = 0) := Lib.hid (by simp [opS, h1, h2])
        clear h1 h2
        go_enter Tryz.func88, Tryz.ntmps88
        go_wp2_with fail
        go_ret
        rw [HO.out]
        exact ⟨rfl, rfl⟩
/-- What l13Expect leaves. -/
def PExp (B base : Nat) (TA : Option Addr) (tc : Nat) (Ts : List ETok) (AA : Option Addr) (ac : Nat) (as_ : List EAssign) (X : List Nat) (a : Nat) (NA : Option Addr) (nc : Nat) (ns : List ENode) (ok : Bool) (w : World) (e : Ending) (w' : World) : Prop :=
  e = .returned (.bool ok) ∧ Only w.heap.size [B] w w' ∧ (ok = true → SpSt w' B base TA tc Ts AA ac as_ X (a + 1) NA nc ns (-1)) ∧ (ok = false → ∃ c0 c1 c2 c3 : Value, Own w' B 77 [c0, c1, c2, c3, .int .i64 (of_ Ts a)])
set_option maxHeartbeats 4000000 in
theorem S_l13Expect {B base : Nat} {TA : Option Addr} {tc : Nat} {Ts : List ETok} {AA : Option Addr} {ac : Nat} {as_ : List EAssign} {X : List Nat} {NA : Option Addr} {nc : Nat} {ns : List ENode} {a : Nat} (x : List UInt8) (w : World)
    (h : SpSt w B base TA tc Ts AA ac as_ X a NA nc ns (-1)) (ha : a < Ts.length) (hs : Ts.length ≤ 1048576) :
    Calls Tryz.prog 29 #[.pointer (some ⟨B, 0, none⟩), str x] w (PExp B base TA tc Ts AA ac as_ X a NA nc ns (decide (pk Ts a = x)) w) := by
  have H := Lib.hid h
  obtain ⟨hB, h0, h1, _, _, h4, hf⟩ := h.cells
  have HPK : Hid (Calls Tryz.prog 59 #[.pointer (some ⟨B, 0, none⟩)] w fun e w' => e = .returned (str (pk Ts a)) ∧ Below w.heap.size w w') := Lib.hid (S_l13Peek w h ha)
  have HFL : Hid (∀ wx, Below w.heap.size w wx → Calls Tryz.prog 28 #[.pointer (some ⟨B, 0, none⟩)] wx fun e w' => e = .returned (.int .i64 0) ∧ w' = (wx.setCell ⟨B, 4, none⟩ (.int .i64 (of_ Ts a))).drew) := Lib.hid (fun wx hb => S_l13Fail wx (H.out.step hb) ha)
  clear h
  obtain ⟨y, hy⟩ : ∃ y, pk Ts a = y := ⟨_, rfl⟩
  rw [hy] at HPK ⊢
  clear hy
  by_cases hx : y = x
  · subst hx
    have hd : Hid (decide (y = y) = true) := Lib.hid (by simp)
    have e1 : (y == y) = true := by simp
    have e2 : (y != y) = false := by simp
    go_enter Tryz.func29, Tryz.ntmps29
    go_wp2_with (first | (go_at_call 59; refine HPK.out.mono ?_; rintro e w1 ⟨rfl, hb1⟩; have HS1 := Lib.hid (H.out.step hb1); have HO1 : Hid (Only w.heap.size [B] w w1) := Lib.hid (Only.of_below hb1 _); have hB1 : B < w1.heap.size := HS1.out.1.lt; have g1 := HS1.out.1.cell 1; have gf := HS1.out.1.frozen; (try dsimp only [List.getElem?_cons_succ, List.getElem?_cons_zero] at g1); clear hb1) | fail)
    go_ret
    rw [hd.out]
    refine ⟨rfl, HO1.out.setCell (by simp) _, fun _ => ?_, fun e => by cases e⟩
    have := HS1.out.setAt (a + 1)
    simpa using this
  · have hd : Hid (decide (y = x) = false) := Lib.hid (by simp [hx])
    have e1 : (y == x) = false := by simpa using hx
    have e2 : (y != x) = true := by simpa using hx
    go_enter Tryz.func29, Tryz.ntmps29
    go_wp2_with (first | (go_at_call 59; refine HPK.out.mono ?_; rintro e w1 ⟨rfl, hb1⟩; have HB1 := Lib.hid hb1; have HS1 := Lib.hid (H.out.step hb1); have HO1 : Hid (Only w.heap.size [B] w w1) := Lib.hid (Only.of_below hb1 _); clear hb1) | (go_at_call 28; refine (HFL.out _ HB1.out).mono ?_; rintro e w2 ⟨rfl, rfl⟩) | fail)
    go_ret
    rw [hd.out]
    refine ⟨rfl, (HO1.out.setCell (by simp) _).drew, (fun e => by cases e), fun _ => ⟨_, _, _, _, (HS1.out.setBad _).1.drew⟩⟩
set_option maxHeartbeats 8000000 in
theorem S_l13Emit {B base : Nat} {TA : Option Addr} {tc : Nat} {Ts : List ETok} {AA : Option Addr} {ac : Nat} {as_ : List EAssign} {X : List Nat} {NA : Option Addr} {nc : Nat} {ns : List ENode} {a : Nat} {op num : Int} {name : List UInt8} {args : List Int} {A : Option Addr} {c : Nat} (w : World)
    (h : SpSt w B base TA tc Ts AA ac as_ (gOf A ++ X) a NA nc ns (-1)) (ha0 : 0 < a) (ha : a < Ts.length) (hs : Ts.length ≤ 1048576) (hT : ∀ i, 0 ≤ of_ Ts i)
    (hr : OwnS w 1 A args.length c 3 (ints args)) (hap : ∀ y, y ∈ gOf A → y ∉ X) :
    Calls Tryz.prog 89 #[.pointer (some ⟨B, 0, none⟩), nodeV op name num (.slice A args.length c)] w (PGo B base TA tc Ts AA ac as_ X NA (emit Ts (op, name, num, args) a ns) w) := by
  have H := Lib.hid h
  have HR := Lib.hid hr
  have HAP := Lib.hid hap
  obtain ⟨hB, h0, h1, h2, h3, h4, hf⟩ := h.cells
  have hbase := h.2.low
  obtain ⟨a', rfl⟩ : ∃ a', a = a' + 1 := ⟨a - 1, by omega⟩
  have HFL : Hid (∀ wx, SpSt wx B base TA tc Ts AA ac as_ (gOf A ++ X) a' NA nc ns (-1) → Calls Tryz.prog 28 #[.pointer (some ⟨B, 0, none⟩)] wx fun e w' => e = .returned (.int .i64 0) ∧ w' = (wx.setCell ⟨B, 4, none⟩ (.int .i64 (of_ Ts a'))).drew) := Lib.hid (fun wx hx => S_l13Fail wx hx (by omega))
  have hBw : ¬ B = w.heap.size := by omega
  have hBw' : ¬ w.heap.size = B := by omega
  clear h hr hap
  by_cases h60 : ns.length = 60
  · have HE : Hid (emit Ts (op, name, num, args) (a' + 1) ns = .bad (of_ Ts a')) := Lib.hid (by unfold emit; rw [if_pos h60]; rfl)
    have HT := Lib.hid (hT a')
    have h60' : (ns.length : Int) = 60 := by omega
    have e60 : ((ns.length : Int) == 60) = true := by simpa using h60'
    have HA : Hid (∀ o, SpSt ((w.setCell ⟨B, 1, none⟩ (.int .i64 (a' : Int))).alloc o) B base TA tc Ts AA ac as_ (gOf A ++ X) a' NA nc ns (-1)) := Lib.hid (fun o => (H.out.setAt a').step ((Below.refl _ _).alloc (Nat.le_refl _) o))
    clear hT h60' h60
    go_enter Tryz.func89, Tryz.ntmps89
    go_wp2_with (first | (go_at_call 28; refine (HFL.out _ (HA.out _)).mono ?_; rintro e w2 ⟨rfl, rfl⟩) | fail)
    go_ret
    rw [HE.out]
    exact ⟨0, _, _, _, _, rfl, (SpSt.drew (SpSt.alloc ((H.out.setAt a').setBad _) _)).1, HT.out, (Only.al (((Only.refl _ _ _).setCell (by simp) _).setCell (by simp) _) (by simp) _).drew⟩
  · have HE : Hid (emit Ts (op, name, num, args) (a' + 1) ns = .ok ns.length (a' + 1) (ns ++ [(op, name, num, args)])) := Lib.hid (by unfold emit; rw [if_neg h60])
    have e60 : ((ns.length : Int) == 60) = false := by rw [beq_eq_false_iff_ne]; omega
    obtain ⟨cs, hg, hn, hpc⟩ := H.out.2.nod
    have HPC := Lib.hid hpc
    have HG := Lib.hid hg
    have HN := Lib.hid hn
    have HLT : Hid (ns.length < 60) := Lib.hid (by have := H.out.2.cap; omega)
    have hns := H.out.2.cap
    clear hg hn hT h60 hpc
    go_enter Tryz.func89, Tryz.ntmps89
    go_wp2_with fail
    refine wp_region_M (S := (fun w' => w'.cell? ⟨B, 2, none⟩ = some (.slice NA ns.length nc) ∧ w'.frozen? ⟨B, 2, none⟩ = false ∧ w'.cell? ⟨w.heap.size, 0, none⟩ = some (.int .i64 op) ∧ w'.cell? ⟨w.heap.size, 1, none⟩ = some (str name) ∧ w'.cell? ⟨w.heap.size, 2, none⟩ = some (.int .i64 num) ∧ w'.cell? ⟨w.heap.size, 3, none⟩ = some (.slice A args.length c))) 12 (by kernel_rfl) (by (try dsimp only); refine ⟨?_, ?_, ?_, ?_, ?_, ?_⟩ <;> (go_simp; done)) (fun hHeld => ?_)
    refine wpAnyM_take (i := 0) (v := ?_) rfl (by kernel_rfl) (by kernel_rfl) (by kernel_rfl) (by kernel_rfl) (fun _ _ _ h => h) (Or.inl ⟨by rfl, ?_⟩) (by assumption) ?_; rotate_left; focus (intro w hSw; (try dsimp only at hSw); go_simp; try with_reducible rfl)
    refine wpAnyM_take (i := 1) (v := ?_) rfl (by kernel_rfl) (by kernel_rfl) (by kernel_rfl) (by kernel_rfl) (fun _ _ _ h => h) (Or.inl ⟨by rfl, ?_⟩) (by assumption) ?_; rotate_left; focus (intro w hSw; (try dsimp only at hSw); go_simp; try with_reducible rfl)
    refine wpAnyM_take (i := 2) (v := ?_) rfl (by kernel_rfl) (by kernel_rfl) (by kernel_rfl) (by kernel_rfl) (fun _ _ _ h => h) (Or.inl ⟨by rfl, ?_⟩) (by assumption) ?_; rotate_left; focus (intro w hSw; (try dsimp only at hSw); go_simp; try with_reducible rfl)
    refine wpAnyM_take (i := 3) (v := ?_) rfl (by kernel_rfl) (by kernel_rfl) (by kernel_rfl) (by kernel_rfl) (fun _ _ _ h => h) (Or.inl ⟨by rfl, ?_⟩) (by assumption) ?_; rotate_left; focus (intro w hSw; (try dsimp only at hSw); go_simp; try with_reducible rfl)
    refine wpAnyM_take (i := 4) (v := ?_) rfl (by kernel_rfl) (by kernel_rfl) (by kernel_rfl) (by kernel_rfl) (fun _ _ _ h => h) (Or.inl ⟨by rfl, ?_⟩) (by assumption) ?_; rotate_left; focus (intro w hSw; (try dsimp only at hSw); go_simp; try with_reducible rfl)
    refine wpAnyM_take (i := 5) (v := ?_) rfl (by kernel_rfl) (by kernel_rfl) (by kernel_rfl) (by kernel_rfl) (fun _ _ _ h => h) (Or.inl ⟨by rfl, ?_⟩) (by assumption) ?_; rotate_left; focus (intro w hSw; (try dsimp only at hSw); go_simp; try with_reducible rfl)
    refine wpAnyM_take (i := 6) (v := ?_) rfl (by kernel_rfl) (by kernel_rfl) (by kernel_rfl) (by kernel_rfl) (fun _ _ _ h => h) (Or.inl ⟨by rfl, ?_⟩) (by assumption) ?_; rotate_left; focus (intro w hSw; (try dsimp only at hSw); go_simp; try with_reducible rfl)
    refine wpAnyM_one (i := 7) rfl (by kernel_rfl) (fun K7 hK7 => ?_)
    go_simp
    refine hK7.out _ _ (fun _ => by (try dsimp only); refine ⟨?_, ?_, ?_, ?_, ?_, ?_⟩ <;> (go_simp; done)) (fun hHeld7 => ?_)
    have hX7 := hHeld7 (by decide)
    refine wpAnyM_one (i := 8) rfl (by kernel_rfl) (fun K8 hK8 => ?_)
    (refine step_app (by rfl) _ _ 23 (by rfl) (base) 70 (.agg #[.int .i64 0, .string ByteArray.empty, .int .i64 0, .slice none 0 0]) 4 56 Tryz.underlying23 T.infoNode rfl (by decide) (xs := cs) (by rfl) ?_ (ys := [.int .i64 op, str name, .int .i64 num, .slice A args.length c]) (by rfl) ?_ (node_one _ _ _ _) ?_ ?_ ?_ ?_; (exact (by repeat (first | (with_reducible exact HG.out) | (with_reducible refine Grow.alloc ?_ _) | (with_reducible refine Grow.drewN ?_ _) | (with_reducible refine Grow.drew ?_) | ((with_reducible refine Grow.far ?_ ?_ _); rotate_left; (first | omega | (simp <;> omega))) | (with_reducible refine Grow.step (by assumption) ?_)))); (exact (Grow.rs (base := 0) (n := 1) (c := 1) (by repeat (first | (with_reducible refine Grow.drewN ?_ _) | (with_reducible refine Grow.drew ?_) | (refine Grow.lit_at (by simp) (by rfl) (Nat.zero_le _) (by unfold maxLen; omega)))))); (unfold maxLen; omega); (omega); (first | omega | (simp <;> omega)); rintro A' c' w2 gA)
    have hsa := gA.2.2.2.1
    (try simp at hsa)
    have hem := PMem.put H.out.2 HLT.out (by repeat (first | (with_reducible exact Below.refl _ _) | (with_reducible assumption) | ((with_reducible refine Below.alloc ?_ ?_ _); rotate_left; (first | omega | (simp <;> omega))) | ((with_reducible refine Below.setCell ?_ ?_ _); rotate_left; (first | omega | (simp <;> omega))) | (with_reducible refine below_drewN ?_ _) | (with_reducible refine Below.drew ?_) | ((with_reducible refine Below.step (by assumption) ?_ ?_); rotate_left; (first | omega | (simp <;> omega))))) HG.out HN.out HPC.out HR.out HAP.out gA
    have hbx2 : Box w2 w.heap.size [.int .i64 op, str name, .int .i64 num, .slice A args.length c] := by
      have hfa := (Appended.far gA (b := w.heap.size) (by simp; try omega) (fun e => by have := HG.out.lt _ e; omega)).1
      refine Box.mk4 (by omega) ?_ ?_ ?_ ?_ <;> (rw [hfa]; go_simp; done)
    have ho2 : Own w2 B 77 [.slice TA Ts.length tc, .int .i64 ((a' + 1 : Nat) : Int), .slice NA ns.length nc, .slice AA as_.length ac, .int .i64 (-1)] := hem.2.1.own H.out.1 hB (fun hN => (H.out.2.apN B hN).1 rfl)
    have HO2 := Lib.hid ho2
    have HE2 := Lib.hid hem
    have k2 := ho2.cell 2
    have kf := ho2.frozen 2
    (try dsimp only [List.getElem?_cons_succ, List.getElem?_cons_zero] at k2)
    obtain ⟨zb2, e0, e1, e2, e3⟩ := hbx2.open4
    have hBw2 : B < w2.heap.size := by omega
    clear gA hem ho2 hbx2
    refine hK8.out _ _ (fun _ => by (try dsimp only); refine ⟨?_, ?_, ?_, ?_, ?_, ?_⟩ <;> (go_simp; done)) (fun hHeld8 => ?_)
    have hX8 := hHeld8 (by decide)
    refine wpAnyM_one (i := 9) rfl (by kernel_rfl) (fun K9 hK9 => ?_)
    go_simp
    refine hK9.out _ _ (fun _ => hX8) (fun hHeld9 => ?_)
    have hX9 := hHeld9 (by decide)
    refine wpAnyM_one (i := 10) rfl (by kernel_rfl) (fun K10 hK10 => ?_)
    go_simp
    refine hK10.out _ _ (fun _ => hX9) (fun hHeld10 => ?_)
    have hX10 := hHeld10 (by decide)
    refine wpAnyM_one (i := 11) rfl (by kernel_rfl) (fun K11 hK11 => ?_)
    go_simp
    refine hK11.out _ _ (fun _ => hX10) (fun hHeld11 => ?_)
    have hX11 := hHeld11 (by decide)
    refine wpAnyM_one (i := 12) rfl (by kernel_rfl) (fun K12 hK12 => ?_)
    go_simp
    refine hK12.out _ _ (fun h => absurd rfl h) (fun hHeld12 => ?_)
    refine wpAnyM_done (by kernel_rfl) ?_ _
    have hst : SpSt (w2.setCell ⟨B, 2, none⟩ (.slice A' (ns.length + 1) c')) B base TA tc Ts AA ac as_ X (a' + 1) A' c' (ns ++ [(op, name, num, args)]) (-1) := ⟨by have := HO2.out.set_ 2 (.slice A' (ns.length + 1) c'); simpa using this, HE2.out.1.set_ 2 _⟩
    have HST := Lib.hid hst
    have HON : Hid (Only w.heap.size (B :: gOf NA) w (w2.setCell ⟨B, 2, none⟩ (.slice A' (ns.length + 1) c'))) := Lib.hid (Only.setCell (HE2.out.2.1.mono' (fun x hx => by simp [hx])) (by simp) _)
    have m2 := hst.cells.2.2.2.1
    have mB := hst.cells.1
    have hl : (ns ++ [(op, name, num, args)]).length = ns.length + 1 := by simp
    rw [hl] at m2
    generalize w2.setCell ⟨B, 2, none⟩ (.slice A' (ns.length + 1) c') = w3 at *
    clear hst hX8 hX9 hX10 hX11 hHeld k2 kf e0 e1 e2 e3 hl
    go_wp2_with fail
    go_ret
    rw [HE.out]
    exact ⟨_, _, rfl, HST.out, HON.out, HE2.out.2.2⟩
end Go.Proofs.YtnlbojckobgjpaaGreatDoor
