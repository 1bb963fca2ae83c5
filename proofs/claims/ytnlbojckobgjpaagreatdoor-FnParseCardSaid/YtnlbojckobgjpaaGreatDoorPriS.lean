/- The program's parser: its small functions. -/
import Derived.Test.YtnlbojckobgjpaaGreatDoorParS
import Derived.Recover
set_option linter.unusedVariables false
set_option linter.unusedSimpArgs false
namespace Go.Proofs.YtnlbojckobgjpaaGreatDoor
open Go.RowKit Go.Lib
set_option maxRecDepth 100000
/-- The program's parser between two calls. -/
def IpSt (w : World) (B base : Nat) (TA : Option Addr) (tc : Nat) (Ts : List ETok) (AA : Option Addr) (ac : Nat) (as_ : List EAssign) (X : List Nat) (a : Nat) (dp : Int) (NA : Option Addr) (nc : Nat) (ns : List ENode) : Prop :=
  Own w B 61 [.slice TA Ts.length tc, .int .i64 a, .int .i64 dp, .slice NA ns.length nc, .slice AA as_.length ac] ∧ PMem w B base TA tc Ts AA ac as_ X NA nc ns
/-- The panic that ends a parse. -/
abbrev rej (o : Int) : List PanicEntry := [{ v := .iface 57 (.agg #[.int .i64 o]), recovered := false }]
/-- Its state's block, behind a panic. -/
def OwnD (w : World) (B : Nat) : Prop := ∃ (c0 c1 c3 c4 : Value) (dp : Int), Own w B 61 [c0, c1, .int .i64 dp, c3, c4]
/-- What a function of the parser leaves. -/
def IGo (B base : Nat) (TA : Option Addr) (tc : Nat) (Ts : List ETok) (AA : Option Addr) (ac : Nat) (as_ : List EAssign) (X : List Nat) (dp : Int) (NA : Option Addr) (r : PR) (w : World) (e : Ending) (w' : World) : Prop :=
  match r with
  | .ok v a ns => ∃ NA' nc', e = .returned (.int .i64 v) ∧ IpSt w' B base TA tc Ts AA ac as_ X a dp NA' nc' ns ∧ Only w.heap.size (B :: gOf NA) w w' ∧ (∀ x, x ∈ gOf NA' → x ∈ gOf NA ∨ w.heap.size ≤ x)
  | .bad o => e = .panicked (rej o) ∧ OwnD w' B ∧ Only w.heap.size (B :: gOf NA) w w'
  | .out => False
abbrev tkV (T : List ETok) (a : Nat) : Value := .agg #[.int .i64 (kd T a), str (tx T a), .int .i64 (nm T a), .int .i64 (of_ T a)]
section
variable {w w' : World} {B base : Nat} {TA : Option Addr} {tc : Nat} {Ts : List ETok} {AA : Option Addr} {ac : Nat} {as_ : List EAssign} {X : List Nat} {NA : Option Addr} {nc : Nat} {ns : List ENode} {a : Nat} {dp : Int}
theorem IpSt.step (hb : Below w.heap.size w w') (h : IpSt w B base TA tc Ts AA ac as_ X a dp NA nc ns) : IpSt w' B base TA tc Ts AA ac as_ X a dp NA nc ns := ⟨h.1.step hb, h.2.step hb⟩
theorem IpSt.alloc (h : IpSt w B base TA tc Ts AA ac as_ X a dp NA nc ns) (o : Obj) : IpSt (w.alloc o) B base TA tc Ts AA ac as_ X a dp NA nc ns := h.step ((Below.refl _ _).alloc (Nat.le_refl _) o)
theorem IpSt.drew (h : IpSt w B base TA tc Ts AA ac as_ X a dp NA nc ns) : IpSt w.drew B base TA tc Ts AA ac as_ X a dp NA nc ns := ⟨h.1.drew, h.2.drew⟩
theorem IpSt.setAt (h : IpSt w B base TA tc Ts AA ac as_ X a dp NA nc ns) (a' : Nat) : IpSt (w.setCell ⟨B, 1, none⟩ (.int .i64 a')) B base TA tc Ts AA ac as_ X a' dp NA nc ns := ⟨h.1.set_ 1 _, h.2.set_ 1 _⟩
theorem IpSt.setDp (h : IpSt w B base TA tc Ts AA ac as_ X a dp NA nc ns) (d : Int) : IpSt (w.setCell ⟨B, 2, none⟩ (.int .i64 d)) B base TA tc Ts AA ac as_ X a d NA nc ns := ⟨h.1.set_ 2 _, h.2.set_ 2 _⟩
theorem IpSt.cells (h : IpSt w B base TA tc Ts AA ac as_ X a dp NA nc ns) : B < w.heap.size ∧ w.cell? ⟨B, 0, none⟩ = some (.slice TA Ts.length tc) ∧ w.cell? ⟨B, 1, none⟩ = some (.int .i64 a) ∧ w.cell? ⟨B, 2, none⟩ = some (.int .i64 dp) ∧ w.cell? ⟨B, 3, none⟩ = some (.slice NA ns.length nc) ∧ w.cell? ⟨B, 4, none⟩ = some (.slice AA as_.length ac) ∧ ∀ o, w.frozen? ⟨B, o, none⟩ = false :=
  ⟨h.1.lt, h.1.cell 0, h.1.cell 1, h.1.cell 2, h.1.cell 3, h.1.cell 4, h.1.frozen⟩
theorem IpSt.only {a' : Nat} {d' : Int} (h : IpSt w B base TA tc Ts AA ac as_ X a dp NA nc ns) (hO : Only w.heap.size [B] w w') (ho : Own w' B 61 [.slice TA Ts.length tc, .int .i64 a', .int .i64 d', .slice NA ns.length nc, .slice AA as_.length ac]) : IpSt w' B base TA tc Ts AA ac as_ X a' d' NA nc ns :=
  ⟨ho, h.2.keep hO.size (fun x hx hl => hO.block x hl (by simpa using hx))⟩
theorem Only.up2 {B : Nat} {G : List Nat} {a w : World} (h : Only B G a w) {p : Addr} (hp : B ≤ p.block) (u : Value) : Only B G a (w.setCell p u) :=
  ⟨h.os, h.tape, h.output, by simpa [World.setCell] using h.size, fun i hi hn => (Below.heap_setCell w p u i (by omega)).trans (h.block i hi hn)⟩
theorem IpSt.ownD (h : IpSt w B base TA tc Ts AA ac as_ X a dp NA nc ns) : OwnD w B := ⟨_, _, _, _, _, h.1⟩
theorem OwnD.step (hb : Below w.heap.size w w') (h : OwnD w B) : OwnD w' B := by obtain ⟨c0, c1, c3, c4, d, h⟩ := h; exact ⟨c0, c1, c3, c4, d, h.step hb⟩
theorem OwnD.drew (h : OwnD w B) : OwnD w.drew B := by obtain ⟨c0, c1, c3, c4, d, h⟩ := h; exact ⟨c0, c1, c3, c4, d, h.drew⟩
end
set_option maxHeartbeats 2000000 in
theorem I_now {B base : Nat} {TA : Option Addr} {tc : Nat} {Ts : List ETok} {AA : Option Addr} {ac : Nat} {as_ : List EAssign} {X : List Nat} {NA : Option Addr} {nc : Nat} {ns : List ENode} {a : Nat} {dp : Int} (w : World)
    (h : IpSt w B base TA tc Ts AA ac as_ X a dp NA nc ns) (ha : a < Ts.length) :
    Calls Tryz.prog 46 #[.pointer (some ⟨B, 0, none⟩)] w fun e w' => e = .returned (tkV Ts a) ∧ Below w.heap.size w w' := by
  obtain ⟨hB, h0, h1, _, _, _, _⟩ := h.cells
  obtain ⟨ht1, ht2, b, o, rfl, hb, hbB, t0, t1, t2, t3⟩ := h.2.tokAt ha
  unfold maxLen at ht2
  have ha' : (a : Int) < Ts.length := by omega
  show Calls _ _ _ _ fun e w' => e = .returned (.agg #[.int .i64 (kd Ts a), str (tx Ts a), .int .i64 (nm Ts a), .int .i64 (of_ Ts a)]) ∧ _
  generalize kd Ts a = k at *
  generalize tx Ts a = x at *
  generalize nm Ts a = n at *
  generalize of_ Ts a = f at *
  clear h
  obtain ⟨u, hu⟩ : ∃ u, w.alloc (.cells #[.int .i64 0, .string ⟨#[]⟩, .int .i64 0, .int .i64 0] 74) = u := ⟨_, rfl⟩
  have q0 : u.cell? ⟨B, 0, none⟩ = some (.slice (some ⟨b, o, none⟩) Ts.length tc) := by rw [← hu, World.cell?_alloc_lt _ _ ⟨B, 0, none⟩ hB]; exact h0
  have q1 : u.cell? ⟨B, 1, none⟩ = some (.int .i64 a) := by rw [← hu, World.cell?_alloc_lt _ _ ⟨B, 1, none⟩ hB]; exact h1
  have r0 : u.cell? ⟨b, o + a * 4, none⟩ = some (.int .i64 k) := by rw [← hu, World.cell?_alloc_lt _ _ ⟨b, _, none⟩ hb]; exact t0
  have r1 : u.cell? ⟨b, o + a * 4 + 1, none⟩ = some (str x) := by rw [← hu, World.cell?_alloc_lt _ _ ⟨b, _, none⟩ hb]; exact t1
  have r2 : u.cell? ⟨b, o + a * 4 + 2, none⟩ = some (.int .i64 n) := by rw [← hu, World.cell?_alloc_lt _ _ ⟨b, _, none⟩ hb]; exact t2
  have r3 : u.cell? ⟨b, o + a * 4 + 3, none⟩ = some (.int .i64 f) := by rw [← hu, World.cell?_alloc_lt _ _ ⟨b, _, none⟩ hb]; exact t3
  have hob : Own u w.heap.size 74 [.int .i64 0, .string ⟨#[]⟩, .int .i64 0, .int .i64 0] := by rw [← hu]; exact Own.new w 74 #[_, _, _, _]
  have b0 := hob.cell 0
  have b1 := hob.cell 1
  have b2 := hob.cell 2
  have b3 := hob.cell 3
  have bf := hob.frozen
  have bz := hob.lt
  (try dsimp only [List.getElem?_cons_succ, List.getElem?_cons_zero] at b0 b1 b2 b3)
  have HU := Lib.hid hu
  have HBu : Hid (Below w.heap.size w u) := Lib.hid (by rw [← hu]; exact (by repeat (first | (with_reducible exact Below.refl _ _) | (with_reducible assumption) | ((with_reducible refine Below.alloc ?_ ?_ _); rotate_left; (first | omega | (simp <;> omega))) | ((with_reducible refine Below.setCell ?_ ?_ _); rotate_left; (first | omega | (simp <;> omega))) | (with_reducible refine below_drewN ?_ _) | (with_reducible refine Below.drew ?_) | ((with_reducible refine Below.step (by assumption) ?_ ?_); rotate_left; (first | omega | (simp <;> omega))))))
  clear hob t0 t1 t2 t3 h0 h1
  go_enter Tryz.func46, Tryz.ntmps46
  go_wp2_with fail
  clear hu
  go_still_tail 10, (by kernel_rfl)
  go_wp2_with fail
  refine bodyPost_ret (v := .agg #[.int .i64 k, str x, .int .i64 n, .int .i64 f]) (by simp [results, Tryz.results46, go_sem, *]) rfl ⟨rfl, (by repeat (first | (with_reducible exact Below.refl _ _) | (with_reducible exact HBu.out) | (with_reducible assumption) | ((with_reducible refine Below.alloc ?_ ?_ _); rotate_left; (first | omega | (simp <;> omega))) | ((with_reducible refine Below.setCell ?_ ?_ _); rotate_left; (first | omega | (simp <;> omega))) | (with_reducible refine below_drewN ?_ _) | (with_reducible refine Below.drew ?_) | ((with_reducible refine Below.step (by assumption) ?_ ?_); rotate_left; (first | omega | (simp <;> omega)))))⟩
set_option maxHeartbeats 2000000 in
theorem I_next {B base : Nat} {TA : Option Addr} {tc : Nat} {Ts : List ETok} {AA : Option Addr} {ac : Nat} {as_ : List EAssign} {X : List Nat} {NA : Option Addr} {nc : Nat} {ns : List ENode} {a : Nat} {dp : Int} (w : World)
    (h : IpSt w B base TA tc Ts AA ac as_ X a dp NA nc ns) (ha : a < Ts.length) (hs : Ts.length ≤ 1048576) (hk : kd Ts a ≠ 0) :
    Calls Tryz.prog 47 #[.pointer (some ⟨B, 0, none⟩)] w fun e w' => e = .returned (tkV Ts a) ∧ IpSt w' B base TA tc Ts AA ac as_ X (a + 1) dp NA nc ns ∧ Only w.heap.size [B] w w' := by
  have H := Lib.hid h
  have hB := h.cells.1
  have HN : Hid (∀ wx, IpSt wx B base TA tc Ts AA ac as_ X a dp NA nc ns → Calls Tryz.prog 46 #[.pointer (some ⟨B, 0, none⟩)] wx fun e w' => e = .returned (.agg #[.int .i64 (kd Ts a), str (tx Ts a), .int .i64 (nm Ts a), .int .i64 (of_ Ts a)]) ∧ Below wx.heap.size wx w') := Lib.hid (fun wx hx => I_now wx hx ha)
  have hk' : (kd Ts a == 0) = false := beq_eq_false_iff_ne.2 hk
  show Calls _ _ _ _ fun e w' => e = .returned (.agg #[.int .i64 (kd Ts a), str (tx Ts a), .int .i64 (nm Ts a), .int .i64 (of_ Ts a)]) ∧ _
  generalize kd Ts a = k at *
  generalize tx Ts a = x at *
  generalize nm Ts a = n at *
  generalize of_ Ts a = f at *
  clear h
  go_enter Tryz.func47, Tryz.ntmps47
  go_wp2_with fail
  refine (HN.out _ (H.out.alloc _)).mono ?_
  rintro e u1 ⟨rfl, hb1⟩
  have hz1 := hb1.size
  (try simp at hz1)
  have HS1 := Lib.hid ((H.out.alloc _).step hb1)
  have HO1 : Hid (Only w.heap.size [B] w u1) := Lib.hid (Only.of_below (Below.step hb1 (by repeat (first | (with_reducible exact Below.refl _ _) | (with_reducible assumption) | ((with_reducible refine Below.alloc ?_ ?_ _); rotate_left; (first | omega | (simp <;> omega))) | ((with_reducible refine Below.setCell ?_ ?_ _); rotate_left; (first | omega | (simp <;> omega))) | (with_reducible refine below_drewN ?_ _) | (with_reducible refine Below.drew ?_) | ((with_reducible refine Below.step (by assumption) ?_ ?_); rotate_left; (first | omega | (simp <;> omega))))) (by first | omega | (simp <;> omega))) _)
  have hob : Own u1 w.heap.size 74 [.int .i64 0, .string ⟨#[]⟩, .int .i64 0, .int .i64 0] := Own.step hb1 (Own.new w 74 #[_, _, _, _])
  have HOB := Lib.hid hob
  have b0 := hob.cell 0
  have b1 := hob.cell 1
  have b2 := hob.cell 2
  have b3 := hob.cell 3
  have bf := hob.frozen
  have bz := hob.lt
  (try dsimp only [List.getElem?_cons_succ, List.getElem?_cons_zero] at b0 b1 b2 b3)
  have g1 := HS1.out.cells.2.2.1
  have gf := HS1.out.cells.2.2.2.2.2.2
  have gB := HS1.out.cells.1
  have hA : Own (u1.setCell ⟨B, 1, none⟩ (.int .i64 ((a : Int) + 1))) B 61 [.slice TA Ts.length tc, .int .i64 ((a + 1 : Nat) : Int), .int .i64 dp, .slice NA ns.length nc, .slice AA as_.length ac] := by have := (HS1.out.setAt (a + 1)).1; simpa using this
  have HA := Lib.hid hA
  have hBw : ¬ B = w.heap.size := by omega
  have hBw2 : ¬ w.heap.size = B := by omega
  clear hb1 hob hA
  go_wp2_with fail
  refine bodyPost_ret (v := .agg #[.int .i64 k, str x, .int .i64 n, .int .i64 f]) (by simp [results, Tryz.results47, go_sem, *]) rfl ⟨rfl, H.out.only ?_ ?_, ?_⟩
  · exact (by repeat (first | (with_reducible exact HO1.out) | ((with_reducible refine Only.up2 ?_ ?_ _); rotate_left; (focus (first | omega | (simp; omega) | (simp; done)))) | ((with_reducible refine Only.setCell ?_ ?_ _); rotate_left; (focus (simp; done))) | ((with_reducible refine Only.al ?_ ?_ _); rotate_left; (focus (first | omega | (simp; omega) | (simp; done)))) | (with_reducible refine Only.drew ?_) | (with_reducible refine Only.drewN ?_ _)))
  · exact (by repeat (first | (with_reducible exact HA.out) | ((with_reducible refine Own.far ?_ ?_ _); rotate_left; (first | omega | (simp <;> omega))) | (with_reducible refine Own.alloc ?_ _) | (with_reducible refine Own.drewN ?_ _) | (with_reducible refine Own.drew ?_) | (with_reducible refine Own.step (by assumption) ?_)))
  · exact (by repeat (first | (with_reducible exact HO1.out) | ((with_reducible refine Only.up2 ?_ ?_ _); rotate_left; (focus (first | omega | (simp; omega) | (simp; done)))) | ((with_reducible refine Only.setCell ?_ ?_ _); rotate_left; (focus (simp; done))) | ((with_reducible refine Only.al ?_ ?_ _); rotate_left; (focus (first | omega | (simp; omega) | (simp; done)))) | (with_reducible refine Only.drew ?_) | (with_reducible refine Only.drewN ?_ _)))
/-- The token, boxed; its offset thrown. -/
theorem I_reject (p : Value) (k n o : Int) (x : List UInt8) (w : World) :
    Calls Tryz.prog 48 #[p, .agg #[.int .i64 k, str x, .int .i64 n, .int .i64 o]] w fun e w' => e = .panicked (rej o) ∧ Below w.heap.size w w' := by
  go_enter Tryz.func48, Tryz.ntmps48
  go_wp2_with fail
  exact ⟨rfl, rfl, (by repeat (first | (with_reducible exact Below.refl _ _) | (with_reducible assumption) | ((with_reducible refine Below.alloc ?_ ?_ _); rotate_left; (first | omega | (simp <;> omega))) | ((with_reducible refine Below.setCell ?_ ?_ _); rotate_left; (first | omega | (simp <;> omega))) | (with_reducible refine below_drewN ?_ _) | (with_reducible refine Below.drew ?_) | ((with_reducible refine Below.step (by assumption) ?_ ?_); rotate_left; (first | omega | (simp <;> omega)))))⟩
set_option maxHeartbeats 2000000 in
theorem I_is {B base : Nat} {TA : Option Addr} {tc : Nat} {Ts : List ETok} {AA : Option Addr} {ac : Nat} {as_ : List EAssign} {X : List Nat} {NA : Option Addr} {nc : Nat} {ns : List ENode} {a : Nat} {dp : Int} (x : List UInt8) (w : World)
    (h : IpSt w B base TA tc Ts AA ac as_ X a dp NA nc ns) (ha : a < Ts.length) (hx : x ≠ []) :
    Calls Tryz.prog 75 #[.pointer (some ⟨B, 0, none⟩), str x] w fun e w' => e = .returned (.bool (decide (pk Ts a = x))) ∧ Below w.heap.size w w' := by
  have HN : Hid (Calls Tryz.prog 46 #[.pointer (some ⟨B, 0, none⟩)] w fun e w' => e = .returned (.agg #[.int .i64 (kd Ts a), str (tx Ts a), .int .i64 (nm Ts a), .int .i64 (of_ Ts a)]) ∧ Below w.heap.size w w') := Lib.hid (I_now w h ha)
  have hB := h.cells.1
  have hd : decide (pk Ts a = x) = (kd Ts a == 3 && tx Ts a == x) := by
    unfold pk
    by_cases h3 : kd Ts a = 3
    · rw [if_pos h3, h3]
      by_cases h4 : tx Ts a = x <;> simp [h4]
    · rw [if_neg h3]
      have : (kd Ts a == 3) = false := beq_eq_false_iff_ne.2 h3
      rw [this]; simp; exact fun e => hx e
  rw [hd]
  generalize kd Ts a = k at *
  generalize tx Ts a = y at *
  generalize nm Ts a = n at *
  generalize of_ Ts a = f at *
  have HHd := Lib.hid hd
  clear h hd
  cases h3 : (k == 3) with
  | true =>
    obtain rfl : k = 3 := by simpa using h3
    clear h3
    cases h4 : (y == x) with
    | true =>
      go_enter Tryz.func75, Tryz.ntmps75
      go_wp2_with (first | (go_at_call 46; refine HN.out.mono ?_; rintro e u1 ⟨rfl, hb1⟩; have hz1 := hb1.size; have HB1 := Lib.hid hb1; clear hb1) | fail)
      go_ret
      exact ⟨rfl, (by repeat (first | (with_reducible exact Below.refl _ _) | (with_reducible exact HB1.out) | (with_reducible assumption) | ((with_reducible refine Below.alloc ?_ ?_ _); rotate_left; (first | omega | (simp <;> omega))) | ((with_reducible refine Below.setCell ?_ ?_ _); rotate_left; (first | omega | (simp <;> omega))) | (with_reducible refine below_drewN ?_ _) | (with_reducible refine Below.drew ?_) | ((with_reducible refine Below.step (by assumption) ?_ ?_); rotate_left; (first | omega | (simp <;> omega)))))⟩
    | false =>
      go_enter Tryz.func75, Tryz.ntmps75
      go_wp2_with (first | (go_at_call 46; refine HN.out.mono ?_; rintro e u1 ⟨rfl, hb1⟩; have hz1 := hb1.size; have HB1 := Lib.hid hb1; clear hb1) | fail)
      go_ret
      exact ⟨rfl, (by repeat (first | (with_reducible exact Below.refl _ _) | (with_reducible exact HB1.out) | (with_reducible assumption) | ((with_reducible refine Below.alloc ?_ ?_ _); rotate_left; (first | omega | (simp <;> omega))) | ((with_reducible refine Below.setCell ?_ ?_ _); rotate_left; (first | omega | (simp <;> omega))) | (with_reducible refine below_drewN ?_ _) | (with_reducible refine Below.drew ?_) | ((with_reducible refine Below.step (by assumption) ?_ ?_); rotate_left; (first | omega | (simp <;> omega)))))⟩
  | false =>
    go_enter Tryz.func75, Tryz.ntmps75
    go_wp2_with (first | (go_at_call 46; refine HN.out.mono ?_; rintro e u1 ⟨rfl, hb1⟩; have hz1 := hb1.size; have HB1 := Lib.hid hb1; clear hb1) | fail)
    go_ret
    exact ⟨rfl, (by repeat (first | (with_reducible exact Below.refl _ _) | (with_reducible exact HB1.out) | (with_reducible assumption) | ((with_reducible refine Below.alloc ?_ ?_ _); rotate_left; (first | omega | (simp <;> omega))) | ((with_reducible refine Below.setCell ?_ ?_ _); rotate_left; (first | omega | (simp <;> omega))) | (with_reducible refine below_drewN ?_ _) | (with_reducible refine Below.drew ?_) | ((with_reducible refine Below.step (by assumption) ?_ ?_); rotate_left; (first | omega | (simp <;> omega)))))⟩
/-- What need leaves. -/
def INeed (B base : Nat) (TA : Option Addr) (tc : Nat) (Ts : List ETok) (AA : Option Addr) (ac : Nat) (as_ : List EAssign) (X : List Nat) (a : Nat) (dp : Int) (NA : Option Addr) (nc : Nat) (ns : List ENode) (ok : Bool) (w : World) (e : Ending) (w' : World) : Prop :=
  Only w.heap.size [B] w w' ∧ (match ok with
  | true => e = .returned (.tuple #[]) ∧ IpSt w' B base TA tc Ts AA ac as_ X (a + 1) dp NA nc ns
  | false => e = .panicked (rej (of_ Ts a)) ∧ OwnD w' B)
theorem pk_kd {T : List ETok} {a : Nat} {x : List UInt8} (h : pk T a = x) (hx : x ≠ []) : kd T a ≠ 0 := by
  unfold pk at h
  split at h
  · rename_i h3; rw [h3]; decide
  · exact absurd h.symm hx
set_option maxHeartbeats 2000000 in
theorem I_need {B base : Nat} {TA : Option Addr} {tc : Nat} {Ts : List ETok} {AA : Option Addr} {ac : Nat} {as_ : List EAssign} {X : List Nat} {NA : Option Addr} {nc : Nat} {ns : List ENode} {a : Nat} {dp : Int} (x : List UInt8) (w : World)
    (h : IpSt w B base TA tc Ts AA ac as_ X a dp NA nc ns) (ha : a < Ts.length) (hs : Ts.length ≤ 1048576) (hx : x ≠ []) :
    Calls Tryz.prog 49 #[.pointer (some ⟨B, 0, none⟩), str x] w (INeed B base TA tc Ts AA ac as_ X a dp NA nc ns (decide (pk Ts a = x)) w) := by
  have H := Lib.hid h
  have HIS := Lib.hid (I_is x w h ha hx)
  clear h
  by_cases hp : pk Ts a = x
  · rw [show decide (pk Ts a = x) = true by simp [hp]] at HIS ⊢
    have HNX : Hid (∀ wx, Below w.heap.size w wx → Calls Tryz.prog 47 #[.pointer (some ⟨B, 0, none⟩)] wx fun e w' => ∃ v, e = .returned v ∧ IpSt w' B base TA tc Ts AA ac as_ X (a + 1) dp NA nc ns ∧ Only wx.heap.size [B] wx w') := Lib.hid (fun wx hb => (I_next wx (H.out.step hb) ha hs (pk_kd hp hx)).mono (fun e w' q => ⟨_, q⟩))
    clear hp
    go_enter Tryz.func49, Tryz.ntmps49
    go_wp2_with (first | (go_at_call 75; refine HIS.out.mono ?_; rintro e u1 ⟨rfl, hb1⟩; have HB1 := Lib.hid hb1; clear hb1) | (go_at_call 47; refine (HNX.out _ HB1.out).mono ?_; rintro e u2 ⟨v, rfl, hs2, hO2⟩; have HS2 := Lib.hid hs2; have HO2 : Hid (Only w.heap.size [B] w u2) := Lib.hid ((Only.of_below HB1.out _).sub hO2 HB1.out.size (fun x hx => .inl hx)); clear hs2 hO2) | fail)
    refine bodyPost_end (results_none rfl _ _ _) rfl ⟨HO2.out, rfl, HS2.out⟩
  · rw [show decide (pk Ts a = x) = false by simp [hp]] at HIS ⊢
    have HN : Hid (∀ wx, Below w.heap.size w wx → Calls Tryz.prog 46 #[.pointer (some ⟨B, 0, none⟩)] wx fun e w' => e = .returned (.agg #[.int .i64 (kd Ts a), str (tx Ts a), .int .i64 (nm Ts a), .int .i64 (of_ Ts a)]) ∧ Below wx.heap.size wx w') := Lib.hid (fun wx hb => I_now wx (H.out.step hb) ha)
    generalize kd Ts a = k at *
    generalize tx Ts a = y at *
    generalize nm Ts a = n at *
    generalize hf : of_ Ts a = f at *
    have HF := Lib.hid hf
    clear hp hf
    go_enter Tryz.func49, Tryz.ntmps49
    go_wp2_with (first | (go_at_call 75; refine HIS.out.mono ?_; rintro e u1 ⟨rfl, hb1⟩; have HB1 := Lib.hid hb1; clear hb1) | (go_at_call 46; refine (HN.out _ HB1.out).mono ?_; rintro e u2 ⟨rfl, hb2⟩; have HB2 : Hid (Below w.heap.size w u2) := Lib.hid (Below.step hb2 HB1.out HB1.out.size); clear hb2) | (go_at_call 48; refine (I_reject _ _ _ _ _ _).mono ?_; rintro e u3 ⟨rfl, hb3⟩; have HB3 : Hid (Below w.heap.size w u3) := Lib.hid (Below.step hb3 HB2.out HB2.out.size); clear hb3) | fail)
    exact ⟨rfl, Only.of_below HB3.out _, by rw [HF.out], (H.out.ownD).step HB3.out⟩
set_option maxHeartbeats 4000000 in
theorem I_add {B base : Nat} {TA : Option Addr} {tc : Nat} {Ts : List ETok} {AA : Option Addr} {ac : Nat} {as_ : List EAssign} {X : List Nat} {NA : Option Addr} {nc : Nat} {ns : List ENode} {a : Nat} {dp : Int} {op num : Int} {name : List UInt8} {args : List Int} {A : Option Addr} {c : Nat} (w : World)
    (h : IpSt w B base TA tc Ts AA ac as_ (gOf A ++ X) a dp NA nc ns) (ha0 : 0 < a) (ha : a < Ts.length) (hs : Ts.length ≤ 1048576)
    (hr : OwnS w 1 A args.length c 3 (ints args)) (hap : ∀ y, y ∈ gOf A → y ∉ X) :
    Calls Tryz.prog 101 #[.pointer (some ⟨B, 0, none⟩), nodeV op name num (.slice A args.length c)] w (IGo B base TA tc Ts AA ac as_ X dp NA (emit Ts (op, name, num, args) a ns) w) := by
  have H := Lib.hid h
  have HR := Lib.hid hr
  have HAP := Lib.hid hap
  obtain ⟨hB, h0, h1, h2, h3, h4, hf⟩ := h.cells
  have hbase := h.2.low
  obtain ⟨a', rfl⟩ : ∃ a', a = a' + 1 := ⟨a - 1, by omega⟩
  have hBw : ¬ B = w.heap.size := by omega
  have hBw' : ¬ w.heap.size = B := by omega
  clear hr hap
  by_cases h60 : ns.length = 60
  · have HE : Hid (emit Ts (op, name, num, args) (a' + 1) ns = .bad (of_ Ts a')) := Lib.hid (by unfold emit; rw [if_pos h60]; rfl)
    have h60' : (ns.length : Int) = 60 := by omega
    have e60 : ((ns.length : Int) == 60) = true := by simpa using h60'
    obtain ⟨ht1, ht2, b, o, rfl, hb, hbB, t0, t1, t2, t3⟩ := h.2.tokAt (a := a') (by omega)
    unfold maxLen at ht2
    have ha' : (a' : Int) < Ts.length := by omega
    generalize kd Ts a' = k at *
    generalize tx Ts a' = x at *
    generalize nm Ts a' = n at *
    generalize hof : of_ Ts a' = f at *
    have hw1 : IntKind.i64.wrap (a' : Int) = a' := IntWalk.i64_in _ (by omega)
    have hw2 : IntKind.i64.wrap ((a' : Int) + 1 - 1) = a' := by rw [show (a' : Int) + 1 - 1 = a' by omega]; exact hw1
    clear h h60' h60 hof
    go_enter Tryz.func101, Tryz.ntmps101
    go_wp2_with fail
    refine wp_region_held_drew (S := (fun w' => w'.cell? ⟨B, 0, none⟩ = some (.slice (some ⟨b, o, none⟩) Ts.length tc) ∧ w'.cell? ⟨B, 1, none⟩ = some (.int .i64 ((a' : Int) + 1)) ∧ w'.cell? ⟨b, o + a' * 4, none⟩ = some (.int .i64 k) ∧ w'.cell? ⟨b, o + a' * 4 + 1, none⟩ = some (str x) ∧ w'.cell? ⟨b, o + a' * 4 + 2, none⟩ = some (.int .i64 n) ∧ w'.cell? ⟨b, o + a' * 4 + 3, none⟩ = some (.int .i64 f))) (by kernel_rfl) (by (try dsimp only); refine ⟨?_, ?_, ?_, ?_, ?_, ?_⟩ <;> (go_simp; done)) (fun hHeld => ?_)
    (refine wpAnyH_take (i := 0) (v := ?_) rfl (by kernel_rfl) (by kernel_rfl) (by kernel_rfl) (fun _ _ _ h => h) (Or.inl ⟨by rfl, ?_⟩) (by assumption) ?_; rotate_left; focus (intro w hSw; (try dsimp only at hSw); go_simp; try with_reducible rfl)); (try simp only [List.getElem_toArray, List.getElem_cons_succ, List.getElem_cons_zero, Act.put, List.setIfInBounds_toArray, List.set_cons_zero, List.set_cons_succ])
    (refine wpAnyH_take (i := 1) (v := ?_) rfl (by kernel_rfl) (by kernel_rfl) (by kernel_rfl) (fun _ _ _ h => h) (Or.inl ⟨by rfl, ?_⟩) (by assumption) ?_; rotate_left; focus (intro w hSw; (try dsimp only at hSw); go_simp; try with_reducible rfl)); (try simp only [List.getElem_toArray, List.getElem_cons_succ, List.getElem_cons_zero, Act.put, List.setIfInBounds_toArray, List.set_cons_zero, List.set_cons_succ])
    (refine wpAnyH_take (i := 2) (v := ?_) rfl (by kernel_rfl) (by kernel_rfl) (by kernel_rfl) (fun _ _ _ h => h) (Or.inl ⟨by rfl, ?_⟩) (by assumption) ?_; rotate_left; focus (intro w hSw; (try dsimp only at hSw); go_simp; try with_reducible rfl)); (try simp only [List.getElem_toArray, List.getElem_cons_succ, List.getElem_cons_zero, Act.put, List.setIfInBounds_toArray, List.set_cons_zero, List.set_cons_succ])
    (refine wpAnyH_take (i := 3) (v := ?_) rfl (by kernel_rfl) (by kernel_rfl) (by kernel_rfl) (fun _ _ _ h => h) (Or.inl ⟨by rfl, ?_⟩) (by assumption) ?_; rotate_left; focus (intro w hSw; (try dsimp only at hSw); go_simp; try with_reducible rfl)); (try simp only [List.getElem_toArray, List.getElem_cons_succ, List.getElem_cons_zero, Act.put, List.setIfInBounds_toArray, List.set_cons_zero, List.set_cons_succ])
    (refine wpAnyH_take (i := 4) (v := ?_) rfl (by kernel_rfl) (by kernel_rfl) (by kernel_rfl) (fun _ _ _ h => h) (Or.inl ⟨by rfl, ?_⟩) (by assumption) ?_; rotate_left; focus (intro w hSw; (try dsimp only at hSw); go_simp; try with_reducible rfl)); (try simp only [List.getElem_toArray, List.getElem_cons_succ, List.getElem_cons_zero, Act.put, List.setIfInBounds_toArray, List.set_cons_zero, List.set_cons_succ])
    (refine wpAnyH_take (i := 5) (v := ?_) rfl (by kernel_rfl) (by kernel_rfl) (by kernel_rfl) (fun _ _ _ h => h) (Or.inl ⟨by rfl, ?_⟩) (by assumption) ?_; rotate_left; focus (intro w hSw; (try dsimp only at hSw); go_simp; try with_reducible rfl)); (try simp only [List.getElem_toArray, List.getElem_cons_succ, List.getElem_cons_zero, Act.put, List.setIfInBounds_toArray, List.set_cons_zero, List.set_cons_succ])
    (refine wpAnyH_take (i := 6) (v := ?_) rfl (by kernel_rfl) (by kernel_rfl) (by kernel_rfl) (fun _ _ _ h => h) (Or.inl ⟨by rfl, ?_⟩) (by assumption) ?_; rotate_left; focus (intro w hSw; (try dsimp only at hSw); go_simp; try with_reducible rfl)); (try simp only [List.getElem_toArray, List.getElem_cons_succ, List.getElem_cons_zero, Act.put, List.setIfInBounds_toArray, List.set_cons_zero, List.set_cons_succ])
    (refine wpAnyH_take (i := 7) (v := ?_) rfl (by kernel_rfl) (by kernel_rfl) (by kernel_rfl) (fun _ _ _ h => h) (Or.inl ⟨by rfl, ?_⟩) (by assumption) ?_; rotate_left; focus (intro w hSw; (try dsimp only at hSw); go_simp; try with_reducible rfl)); (try simp only [List.getElem_toArray, List.getElem_cons_succ, List.getElem_cons_zero, Act.put, List.setIfInBounds_toArray, List.set_cons_zero, List.set_cons_succ])
    (refine wpAnyH_take (i := 8) (v := ?_) rfl (by kernel_rfl) (by kernel_rfl) (by kernel_rfl) (fun _ _ _ h => h) (Or.inl ⟨by rfl, ?_⟩) (by assumption) ?_; rotate_left; focus (intro w hSw; (try dsimp only at hSw); go_simp; try with_reducible rfl)); (try simp only [List.getElem_toArray, List.getElem_cons_succ, List.getElem_cons_zero, Act.put, List.setIfInBounds_toArray, List.set_cons_zero, List.set_cons_succ])
    (refine wpAnyH_take (i := 9) (v := ?_) rfl (by kernel_rfl) (by kernel_rfl) (by kernel_rfl) (fun _ _ _ h => h) (Or.inl ⟨by rfl, ?_⟩) (by assumption) ?_; rotate_left; focus (intro w hSw; (try dsimp only at hSw); go_simp; try with_reducible rfl)); (try simp only [List.getElem_toArray, List.getElem_cons_succ, List.getElem_cons_zero, Act.put, List.setIfInBounds_toArray, List.set_cons_zero, List.set_cons_succ])
    (refine wpAnyH_take (i := 10) (v := ?_) rfl (by kernel_rfl) (by kernel_rfl) (by kernel_rfl) (fun _ _ _ h => h) (Or.inl ⟨by rfl, ?_⟩) (by assumption) ?_; rotate_left; focus (intro w hSw; (try dsimp only at hSw); go_simp; try with_reducible rfl)); (try simp only [List.getElem_toArray, List.getElem_cons_succ, List.getElem_cons_zero, Act.put, List.setIfInBounds_toArray, List.set_cons_zero, List.set_cons_succ])
    (refine wpAnyH_take (i := 11) (v := ?_) rfl (by kernel_rfl) (by kernel_rfl) (by kernel_rfl) (fun _ _ _ h => h) (Or.inl ⟨by rfl, ?_⟩) (by assumption) ?_; rotate_left; focus (intro w hSw; (try dsimp only at hSw); go_simp; try with_reducible rfl)); (try simp only [List.getElem_toArray, List.getElem_cons_succ, List.getElem_cons_zero, Act.put, List.setIfInBounds_toArray, List.set_cons_zero, List.set_cons_succ])
    refine wpAnyH_ready (rs := [12]) (by kernel_rfl) (by simp) ?_
    refine AllReadyH.cons rfl (fun K hK => ?_) AllReadyH.nil
    go_simp
    (with_reducible refine (I_reject _ _ _ _ _ _).mono ?_)
    rintro e u3 ⟨rfl, hb3⟩
    have hz3 := hb3.size
    have HB3 : Hid (Below w.heap.size w u3) := Lib.hid (Below.step hb3 (by repeat (first | (with_reducible exact Below.refl _ _) | (with_reducible assumption) | ((with_reducible refine Below.alloc ?_ ?_ _); rotate_left; (first | omega | (simp <;> omega))) | ((with_reducible refine Below.setCell ?_ ?_ _); rotate_left; (first | omega | (simp <;> omega))) | (with_reducible refine below_drewN ?_ _) | (with_reducible refine Below.drew ?_) | ((with_reducible refine Below.step (by assumption) ?_ ?_); rotate_left; (first | omega | (simp <;> omega))))) (by first | omega | (simp <;> omega)))
    refine ⟨rfl, ?_⟩
    rw [HE.out]
    exact ⟨rfl, (H.out.ownD).step HB3.out, Only.of_below HB3.out _⟩
  · have HE : Hid (emit Ts (op, name, num, args) (a' + 1) ns = .ok ns.length (a' + 1) (ns ++ [(op, name, num, args)])) := Lib.hid (by unfold emit; rw [if_neg h60])
    have e60 : ((ns.length : Int) == 60) = false := by rw [beq_eq_false_iff_ne]; omega
    obtain ⟨cs, hg, hn, hpc⟩ := H.out.2.nod
    have HPC := Lib.hid hpc
    have HG := Lib.hid hg
    have HN := Lib.hid hn
    have HLT : Hid (ns.length < 60) := Lib.hid (by have := H.out.2.cap; omega)
    have hns := H.out.2.cap
    clear hg hn h60 hpc h
    go_enter Tryz.func101, Tryz.ntmps101
    go_wp2_with fail
    refine wp_region_M (S := (fun w' => w'.cell? ⟨B, 3, none⟩ = some (.slice NA ns.length nc) ∧ w'.frozen? ⟨B, 3, none⟩ = false ∧ w'.cell? ⟨w.heap.size, 0, none⟩ = some (.int .i64 op) ∧ w'.cell? ⟨w.heap.size, 1, none⟩ = some (str name) ∧ w'.cell? ⟨w.heap.size, 2, none⟩ = some (.int .i64 num) ∧ w'.cell? ⟨w.heap.size, 3, none⟩ = some (.slice A args.length c))) 12 (by kernel_rfl) (by (try dsimp only); refine ⟨?_, ?_, ?_, ?_, ?_, ?_⟩ <;> (go_simp; done)) (fun hHeld => ?_)
    refine wpAnyM_take (i := 0) (v := ?_) rfl (by kernel_rfl) (by kernel_rfl) (by kernel_rfl) (by kernel_rfl) (fun _ _ _ h => h) (Or.inl ⟨by rfl, ?_⟩) (by assumption) ?_; rotate_left; focus (intro w hSw; (try dsimp only at hSw); go_simp; try with_reducible rfl)
    refine wpAnyM_take (i := 1) (v := ?_) rfl (by kernel_rfl) (by kernel_rfl) (by kernel_rfl) (by kernel_rfl) (fun _ _ _ h => h) (Or.inl ⟨by rfl, ?_⟩) (by assumption) ?_; rotate_left; focus (intro w hSw; (try dsimp only at hSw); go_simp; try with_reducible rfl)
    refine wpAnyM_take (i := 2) (v := ?_) rfl (by kernel_rfl) (by kernel_rfl) (by kernel_rfl) (by kernel_rfl) (fun _ _ _ h => h) (Or.inl ⟨by rfl, ?_⟩) (by assumption) ?_; rotate_left; focus (intro w hSw; (try dsimp only at hSw); go_simp; try with_reducible rfl)
    refine wpAnyM_take (i := 3) (v := ?_) rfl (by kernel_rfl) (by kernel_rfl) (by kernel_rfl) (by kernel_rfl) (fun _ _ _ h => h) (Or.inl ⟨by rfl, ?_⟩) (by assumption) ?_; rotate_left; focus (intro w hSw; (try dsimp only at hSw); go_simp; try with_reducible rfl)
    refine wpAnyM_take (i := 4) (v := ?_) rfl (by kernel_rfl) (by kernel_rfl) (by kernel_rfl) (by kernel_rfl) (fun _ _ _ h => h) (Or.inl ⟨by rfl, ?_⟩) (by assumption) ?_; rotate_left; focus (intro w hSw; (try dsimp only at hSw); go_simp; try with_reducible rfl)
    refine wpAnyM_take (i := 5) (v := ?_) rfl (by kernel_rfl) (by kernel_rfl) (by kernel_rfl) (by kernel_rfl) (fun _ _ _ h => h) (Or.inl ⟨by rfl, ?_⟩) (by assumption) ?_; rotate_left; focus (intro w hSw; (try dsimp only at hSw); go_simp; try with_reducible rfl)
    refine wpAnyM_take (i := 6) (v := ?_) rfl (by kernel_rfl) (by kernel_rfl) (by kernel_rfl) (by kernel_rfl) (fun _ _ _ h => h) (Or.inl ⟨by rfl, ?_⟩) (by assumption) ?_; rotate_left; focus (intro w hSw; (try dsimp only at hSw); go_simp; try with_reducible rfl)
    refine wpAnyM_one (i := 7) rfl (by kernel_rfl) (fun K7 hK7 => ?_)
    go_simp
    refine hK7.out _ _ (fun _ => by (try dsimp only); refine ⟨?_, ?_, ?_, ?_, ?_, ?_⟩ <;> (go_simp; done)) (fun hHeld7 => ?_)
    have hX7 := hHeld7 (by decide)
    refine wpAnyM_one (i := 8) rfl (by kernel_rfl) (fun K8 hK8 => ?_)
    (refine step_app (by rfl) _ _ 23 (by rfl) (base) 70 (.agg #[.int .i64 0, .string ByteArray.empty, .int .i64 0, .slice none 0 0]) 4 56 Tryz.underlying23 T.infoNode rfl (by decide) (xs := cs) (by rfl) ?_ (ys := [.int .i64 op, str name, .int .i64 num, .slice A args.length c]) (by rfl) ?_ (node_one _ _ _ _) ?_ ?_ ?_ ?_; (exact (by repeat (first | (with_reducible exact HG.out) | (with_reducible refine Grow.alloc ?_ _) | (with_reducible refine Grow.drewN ?_ _) | (with_reducible refine Grow.drew ?_) | ((with_reducible refine Grow.far ?_ ?_ _); rotate_left; (first | omega | (simp <;> omega))) | (with_reducible refine Grow.step (by assumption) ?_)))); (exact (Grow.rs (base := 0) (n := 1) (c := 1) (by repeat (first | (with_reducible refine Grow.drewN ?_ _) | (with_reducible refine Grow.drew ?_) | (refine Grow.lit_at (by simp) (by rfl) (Nat.zero_le _) (by unfold maxLen; omega)))))); (unfold maxLen; omega); (omega); (first | omega | (simp <;> omega)); rintro A' c' w2 gA)
    have hsa := gA.2.2.2.1
    (try simp at hsa)
    have hem := PMem.put H.out.2 HLT.out (by repeat (first | (with_reducible exact Below.refl _ _) | (with_reducible assumption) | ((with_reducible refine Below.alloc ?_ ?_ _); rotate_left; (first | omega | (simp <;> omega))) | ((with_reducible refine Below.setCell ?_ ?_ _); rotate_left; (first | omega | (simp <;> omega))) | (with_reducible refine below_drewN ?_ _) | (with_reducible refine Below.drew ?_) | ((with_reducible refine Below.step (by assumption) ?_ ?_); rotate_left; (first | omega | (simp <;> omega))))) HG.out HN.out HPC.out HR.out HAP.out gA
    have hbx2 : Box w2 w.heap.size [.int .i64 op, str name, .int .i64 num, .slice A args.length c] := by
      have hfa := (Appended.far gA (b := w.heap.size) (by simp; try omega) (fun e => by have := HG.out.lt _ e; omega)).1
      refine Box.mk4 (by omega) ?_ ?_ ?_ ?_ <;> (rw [hfa]; go_simp; done)
    have ho2 : Own w2 B 61 [.slice TA Ts.length tc, .int .i64 ((a' + 1 : Nat) : Int), .int .i64 dp, .slice NA ns.length nc, .slice AA as_.length ac] := hem.2.1.own H.out.1 hB (fun hN => (H.out.2.apN B hN).1 rfl)
    have HO2 := Lib.hid ho2
    have HE2 := Lib.hid hem
    have k2 := ho2.cell 3
    have kf := ho2.frozen 3
    (try dsimp only [List.getElem?_cons_succ, List.getElem?_cons_zero] at k2)
    obtain ⟨zb2, e0, e1, e2, e3⟩ := hbx2.open4
    have hBw2 : B < w2.heap.size := by omega
    clear gA hem ho2 hbx2
    refine hK8.out _ _ (fun _ => by (try dsimp only); refine ⟨?_, ?_, ?_, ?_, ?_, ?_⟩ <;> (go_simp; done)) (fun hHeld8 => ?_)
    have hX8 := hHeld8 (by decide)
    refine wpAnyM_one (i := 9) rfl (by kernel_rfl) (fun K9 hK9 => ?_)
    go_simp
    refine hK9.out _ _ (fun _ => hX8) (fun hHeld9 => ?_)
    have hX9 := hHeld9 (by decide)
    refine wpAnyM_one (i := 10) rfl (by kernel_rfl) (fun K10 hK10 => ?_)
    go_simp
    refine hK10.out _ _ (fun _ => hX9) (fun hHeld10 => ?_)
    have hX10 := hHeld10 (by decide)
    refine wpAnyM_one (i := 11) rfl (by kernel_rfl) (fun K11 hK11 => ?_)
    go_simp
    refine hK11.out _ _ (fun _ => hX10) (fun hHeld11 => ?_)
    have hX11 := hHeld11 (by decide)
    refine wpAnyM_one (i := 12) rfl (by kernel_rfl) (fun K12 hK12 => ?_)
    go_simp
    refine hK12.out _ _ (fun h => absurd rfl h) (fun hHeld12 => ?_)
    refine wpAnyM_done (by kernel_rfl) ?_ _
    have hst : IpSt (w2.setCell ⟨B, 3, none⟩ (.slice A' (ns.length + 1) c')) B base TA tc Ts AA ac as_ X (a' + 1) dp A' c' (ns ++ [(op, name, num, args)]) := ⟨by have := HO2.out.set_ 3 (.slice A' (ns.length + 1) c'); simpa using this, HE2.out.1.set_ 3 _⟩
    have HST := Lib.hid hst
    have HON : Hid (Only w.heap.size (B :: gOf NA) w (w2.setCell ⟨B, 3, none⟩ (.slice A' (ns.length + 1) c'))) := Lib.hid (Only.setCell (HE2.out.2.1.mono' (fun x hx => by simp [hx])) (by simp) _)
    have m2 := hst.cells.2.2.2.2.1
    have mB := hst.cells.1
    have hl : (ns ++ [(op, name, num, args)]).length = ns.length + 1 := by simp
    rw [hl] at m2
    generalize w2.setCell ⟨B, 3, none⟩ (.slice A' (ns.length + 1) c') = w3 at *
    clear hst hX8 hX9 hX10 hX11 hHeld k2 kf e0 e1 e2 e3 hl
    go_wp2_with fail
    go_ret
    rw [HE.out]
    exact ⟨_, _, rfl, HST.out, HON.out, HE2.out.2.2⟩
end Go.Proofs.YtnlbojckobgjpaaGreatDoor
