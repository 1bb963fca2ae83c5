/- The program's parser: factor's ways. -/
import Derived.Test.YtnlbojckobgjpaaGreatDoorPriF
set_option linter.unusedVariables false
set_option linter.unusedSimpArgs false
namespace Go.Proofs.YtnlbojckobgjpaaGreatDoor
open Go.RowKit Go.Lib
set_option maxRecDepth 100000
/-- What a callee leaves, seen from factor. -/
def FGo (w0 : World) (B base : Nat) (TA : Option Addr) (tc : Nat) (Ts : List ETok) (AA : Option Addr) (ac : Nat) (as_ : List EAssign) (X : List Nat) (NA : Option Addr) (d : Nat) (r : PR) (e : Ending) (w' : World) : Prop :=
  match r with
  | .ok v a ns => ∃ NA' nc', e = .returned (.int .i64 v) ∧ FSt w0 B base TA tc Ts AA ac as_ X NA d w' a NA' nc' ns
  | .bad o => e = .panicked (rej o) ∧ FD w0 B NA w'
  | .out => False
section
variable {w0 w w' : World} {B base : Nat} {TA : Option Addr} {tc : Nat} {Ts : List ETok} {AA : Option Addr} {ac : Nat} {as_ : List EAssign} {X : List Nat} {NA NA1 : Option Addr} {nc : Nat} {ns : List ENode} {a d : Nat}
theorem FSt.igo {r : PR} {e : Ending} (hB : B < w0.heap.size) (h : FSt w0 B base TA tc Ts AA ac as_ X NA d w a NA1 nc ns) (hg : IGo B base TA tc Ts AA ac as_ (gOf (some ⟨w0.heap.size, 0, none⟩) ++ X) ((d + 1 : Nat) : Int) NA1 r w e w') : FGo w0 B base TA tc Ts AA ac as_ X NA d r e w' := by
  cases r with
  | ok v a2 ns2 => obtain ⟨NA', nc', rfl, q1, q2, q3⟩ := hg; exact ⟨NA', nc', rfl, h.go q1 q2 q3⟩
  | bad o => obtain ⟨rfl, q1, q2⟩ := hg; exact ⟨rfl, h.bad hB q1 q2⟩
  | out => exact hg.elim
theorem F_now (h : FSt w0 B base TA tc Ts AA ac as_ X NA d w a NA1 nc ns) (ha : a < Ts.length) : Calls Tryz.prog 46 #[.pointer (some ⟨B, 0, none⟩)] w fun e w' => e = .returned (tkV Ts a) ∧ Below w.heap.size w w' := I_now w h.1 ha
theorem F_is (x : List UInt8) (hx : x ≠ []) (b : Bool) (h : FSt w0 B base TA tc Ts AA ac as_ X NA d w a NA1 nc ns) (ha : a < Ts.length) (hb : decide (pk Ts a = x) = b) : Calls Tryz.prog 75 #[.pointer (some ⟨B, 0, none⟩), str x] w fun e w' => e = .returned (.bool b) ∧ FSt w0 B base TA tc Ts AA ac as_ X NA d w' a NA1 nc ns ∧ Below w.heap.size w w' := (I_is x w h.1 ha hx).mono (fun e w' q => ⟨by rw [← hb]; exact q.1, h.step q.2, q.2⟩)
theorem F_next (h : FSt w0 B base TA tc Ts AA ac as_ X NA d w a NA1 nc ns) (ha : a < Ts.length) (hs : Ts.length ≤ 1048576) (hk : kd Ts a ≠ 0) : Calls Tryz.prog 47 #[.pointer (some ⟨B, 0, none⟩)] w fun e w' => ∃ v, e = .returned v ∧ FSt w0 B base TA tc Ts AA ac as_ X NA d w' (a + 1) NA1 nc ns ∧ Only w.heap.size [B] w w' := (I_next w h.1 ha hs hk).mono (fun e w' q => ⟨_, q.1, h.next q.2.1 q.2.2, q.2.2⟩)
theorem FSt.alloc (h : FSt w0 B base TA tc Ts AA ac as_ X NA d w a NA1 nc ns) (o : Obj) : FSt w0 B base TA tc Ts AA ac as_ X NA d (w.alloc o) a NA1 nc ns := h.step ((Below.refl _ _).alloc (Nat.le_refl _) o)
/-- The deferred function, last. -/
theorem F_doorOk {fn : Func} {tmps : Array Value} {v : Int} (hres : (results fn tmps).run Tryz.prog (w.setCell ⟨B, 2, none⟩ (.int .i64 d)) = .ok (.int .i64 v) (w.setCell ⟨B, 2, none⟩ (.int .i64 d))) (hd : d ≤ 64) (h : FSt w0 B base TA tc Ts AA ac as_ X NA d w a NA1 nc ns) :
    Leaves Tryz.prog fn tmps (IGo B base TA tc Ts AA ac as_ X d NA (.ok v a ns) w0) [{ target := .fn (.func 111) #[.pointer (some ⟨w0.heap.size, 0, none⟩)], args := #[] }] .returning w := by
  have hwd : IntKind.i64.wrap ((d : Int) + 1 - 1) = d := by rw [show (d : Int) + 1 - 1 = d by omega]; exact IntWalk.i64_in _ (by omega)
  obtain ⟨p0, p2, p3⟩ := h.door
  refine leaves_cons (f := 111) (args := #[.pointer (some ⟨w0.heap.size, 0, none⟩)]) (by simp) (by have hf := Tryz.func111; simp [go_sem, hf]) ?_
  refine (I_factorD _ w p0 p2 p3).mono ?_
  rintro e m w' ⟨rfl, rfl, hw'⟩
  rw [hwd] at hw'
  subst hw'
  exact ⟨_, hres, h.fin⟩
theorem F_doorBad {fn : Func} {tmps : Array Value} {o : Int} (h : FD w0 B NA w) :
    Leaves Tryz.prog fn tmps (IGo B base TA tc Ts AA ac as_ X d NA (.bad o) w0) [{ target := .fn (.func 111) #[.pointer (some ⟨w0.heap.size, 0, none⟩)], args := #[] }] (.panicking (rej o)) w := by
  obtain ⟨p0, ⟨x, p2⟩, p3⟩ := h.door
  refine leaves_cons (f := 111) (args := #[.pointer (some ⟨w0.heap.size, 0, none⟩)]) (by simp) (by have hf := Tryz.func111; simp [go_sem, hf]) ?_
  refine (I_factorD _ w p0 p2 p3).mono ?_
  rintro e m w' ⟨rfl, rfl, hw'⟩
  subst hw'
  exact h.fin
end
set_option maxHeartbeats 2000000 in
theorem I_facX {B base : Nat} {TA : Option Addr} {tc : Nat} {Ts : List ETok} {AA : Option Addr} {ac : Nat} {as_ : List EAssign} {k : Nat} (hk : TokK Ts) (ih : ∀ m, m < k + 1 → IPc B base TA tc Ts AA ac as_ m) {d a : Nat} {X : List Nat} {NA : Option Addr} {nc : Nat} {ns : List ENode} (w : World)
    (h : IpSt w B base TA tc Ts AA ac as_ X a d NA nc ns) (ha : a < Ts.length) (hd : ¬ 64 < d + 1) (h1 : pk Ts a ≠ [45]) (h2 : pk Ts a ≠ [40]) (h3 : kd Ts a ≠ 1) (h4 : kd Ts a ≠ 2) (hn : 1 + 4 * (Ts.length - a) ≤ k + 1) :
    Calls Tryz.prog 102 #[.pointer (some ⟨B, 0, none⟩)] w (IGo B base TA tc Ts AA ac as_ X d NA (prs Ts (k + 1) .fac (d + 1) a ns) w) := by
  have hmf : ∀ (fn : Fn) (first cap : Array Value) (w : World), (Instr.makeFunc fn first cap).run Tryz.prog w = .ok (.func fn first cap) w := fun _ _ _ _ => rfl
  have hlen := hk.len
  have hB := h.cells.1
  have g2 := h.cells.2.2.2.1
  have gf := h.cells.2.2.2.2.2.2
  have HF := Lib.hid (FSt.start h)
  have hd' : ¬ (64 : Int) < (d : Int) + 1 := by omega
  have hd2 : d ≤ 64 := by omega
  have hw : IntKind.i64.wrap ((d : Int) + 1) = (d : Int) + 1 := IntWalk.i64_in _ (by omega)
  have hBw : ¬ B = w.heap.size := by omega
  have hBw2 : ¬ w.heap.size = B := by omega
  clear h
  obtain ⟨u, hu⟩ : ∃ u, (w.setCell ⟨B, 2, none⟩ (.int .i64 ((d : Int) + 1))).alloc (.cells #[.pointer (some ⟨B, 0, none⟩)] 59) = u := ⟨_, rfl⟩
  have HF1 : Hid (FSt w B base TA tc Ts AA ac as_ X NA d u a NA nc ns) := Lib.hid (by rw [← hu]; exact HF.out)
  have hzu : w.heap.size < u.heap.size := HF1.out.2.1.lt
  obtain ⟨q0, q2, q3⟩ := HF1.out.door
  have HN : Hid (Calls Tryz.prog 46 #[.pointer (some ⟨B, 0, none⟩)] u fun e w' => e = .returned (.agg #[.int .i64 (kd Ts a), str (tx Ts a), .int .i64 (nm Ts a), .int .i64 (of_ Ts a)]) ∧ Below u.heap.size u w') := Lib.hid (F_now HF1.out ha)
  rw [prs_facX hd h1 h2 h3 h4]
  have HI1 : Hid (∀ wx {NA' : Option Addr} {nc' : Nat} {ns' : List ENode}, FSt w B base TA tc Ts AA ac as_ X NA d wx a NA' nc' ns' → Calls Tryz.prog 75 #[.pointer (some ⟨B, 0, none⟩), .string ⟨#[45]⟩] wx fun e w' => e = .returned (.bool false) ∧ FSt w B base TA tc Ts AA ac as_ X NA d w' a NA' nc' ns' ∧ Below wx.heap.size wx w') := Lib.hid (fun wx _ _ _ q => F_is [45] (by simp) false q (by omega) (by simp [h1]))
  have HI2 : Hid (∀ wx {NA' : Option Addr} {nc' : Nat} {ns' : List ENode}, FSt w B base TA tc Ts AA ac as_ X NA d wx a NA' nc' ns' → Calls Tryz.prog 75 #[.pointer (some ⟨B, 0, none⟩), .string ⟨#[40]⟩] wx fun e w' => e = .returned (.bool false) ∧ FSt w B base TA tc Ts AA ac as_ X NA d w' a NA' nc' ns' ∧ Below wx.heap.size wx w') := Lib.hid (fun wx _ _ _ q => F_is [40] (by simp) false q (by omega) (by simp [h2]))
  have HRJ : Hid (∀ wx, Calls Tryz.prog 48 #[.pointer (some ⟨B, 0, none⟩), .agg #[.int .i64 (kd Ts a), str (tx Ts a), .int .i64 (nm Ts a), .int .i64 (of_ Ts a)]] wx fun e w' => e = .panicked (rej (of_ Ts a)) ∧ Below wx.heap.size wx w') := Lib.hid (fun wx => I_reject _ _ _ _ _ wx)
  have e1 : (kd Ts a == 1) = false := beq_eq_false_iff_ne.2 h3
  have e2 : (kd Ts a == 2) = false := beq_eq_false_iff_ne.2 h4
  clear h1 h2 h3 h4 ih hn
  generalize kd Ts a = kk at *
  generalize tx Ts a = xx at *
  generalize nm Ts a = nn at *
  generalize of_ Ts a = oo at *
  go_enter_defers Tryz.func102, Tryz.ntmps102
  go_wp2_with fail
  clear hu
  (with_reducible refine HN.out.mono ?_)
  rintro e u1 ⟨rfl, hb1⟩
  have HF2 : Hid (FSt w B base TA tc Ts AA ac as_ X NA d (u1.alloc (.cells #[.int .i64 kk, str xx, .int .i64 nn, .int .i64 oo] 74)) a NA nc ns) := Lib.hid ((HF1.out.step hb1).alloc _)
  have HTB : Hid (Own (u1.alloc (.cells #[.int .i64 kk, str xx, .int .i64 nn, .int .i64 oo] 74)) u1.heap.size 74 [.int .i64 kk, str xx, .int .i64 nn, .int .i64 oo]) := Lib.hid (Own.new u1 74 #[_, _, _, _])
  have hz1 := hb1.size
  have HF2' := Lib.hid (HF1.out.step hb1)
  obtain ⟨r0, r2, r3⟩ := HF2'.out.door
  have hzw : w.heap.size < u1.heap.size := by omega
  have htb : ¬ u1.heap.size = B := by omega
  clear hb1 q0 q2 q3
  go_wp2_with fail
  (with_reducible refine (HI1.out _ HF2.out).mono ?_)
  rintro e u2 ⟨rfl, hf2, hb2⟩
  have HF20 := Lib.hid hf2
  have HT2 := Lib.hid (Own.step hb2 HTB.out)
  clear r0 r2 r3 hf2 hb2
  obtain ⟨r0, r2, r3⟩ := HF20.out.door
  go_wp2_with fail
  (with_reducible refine (HI2.out _ HF20.out).mono ?_)
  rintro e u3 ⟨rfl, hf3, hb3⟩
  have HF30 := Lib.hid hf3
  have HT3 := Lib.hid (Own.step hb3 HT2.out)
  clear r0 r2 r3 hf3 hb3
  obtain ⟨r0, r2, r3⟩ := HF30.out.door
  have b0 := HT3.out.cell 0
  have b1 := HT3.out.cell 1
  have b2 := HT3.out.cell 2
  have b3 := HT3.out.cell 3
  have bz := HT3.out.lt
  (try dsimp only [List.getElem?_cons_succ, List.getElem?_cons_zero] at b0 b1 b2 b3)
  go_wp2_with fail
  (with_reducible refine (HRJ.out _).mono ?_)
  rintro e u4 ⟨rfl, hb4⟩
  have HD := Lib.hid ((HF30.out.fd hB).step hb4)
  clear hb4
  go_wp2_with fail
  exact F_doorBad HD.out
set_option maxHeartbeats 2000000 in
theorem I_facN {B base : Nat} {TA : Option Addr} {tc : Nat} {Ts : List ETok} {AA : Option Addr} {ac : Nat} {as_ : List EAssign} {k : Nat} (hk : TokK Ts) (ih : ∀ m, m < k + 1 → IPc B base TA tc Ts AA ac as_ m) {d a : Nat} {X : List Nat} {NA : Option Addr} {nc : Nat} {ns : List ENode} (w : World)
    (h : IpSt w B base TA tc Ts AA ac as_ X a d NA nc ns) (ha : a < Ts.length) (hd : ¬ 64 < d + 1) (h1 : pk Ts a ≠ [45]) (h2 : pk Ts a ≠ [40]) (h3 : kd Ts a = 1) (hn : 1 + 4 * (Ts.length - a) ≤ k + 1) :
    Calls Tryz.prog 102 #[.pointer (some ⟨B, 0, none⟩)] w (IGo B base TA tc Ts AA ac as_ X d NA (prs Ts (k + 1) .fac (d + 1) a ns) w) := by
  have hmf : ∀ (fn : Fn) (first cap : Array Value) (w : World), (Instr.makeFunc fn first cap).run Tryz.prog w = .ok (.func fn first cap) w := fun _ _ _ _ => rfl
  have hlen := hk.len
  have hB := h.cells.1
  have g2 := h.cells.2.2.2.1
  have gf := h.cells.2.2.2.2.2.2
  have HF := Lib.hid (FSt.start h)
  have hd' : ¬ (64 : Int) < (d : Int) + 1 := by omega
  have hd2 : d ≤ 64 := by omega
  have hw : IntKind.i64.wrap ((d : Int) + 1) = (d : Int) + 1 := IntWalk.i64_in _ (by omega)
  have hBw : ¬ B = w.heap.size := by omega
  have hBw2 : ¬ w.heap.size = B := by omega
  clear h
  obtain ⟨u, hu⟩ : ∃ u, (w.setCell ⟨B, 2, none⟩ (.int .i64 ((d : Int) + 1))).alloc (.cells #[.pointer (some ⟨B, 0, none⟩)] 59) = u := ⟨_, rfl⟩
  have HF1 : Hid (FSt w B base TA tc Ts AA ac as_ X NA d u a NA nc ns) := Lib.hid (by rw [← hu]; exact HF.out)
  have hzu : w.heap.size < u.heap.size := HF1.out.2.1.lt
  obtain ⟨q0, q2, q3⟩ := HF1.out.door
  have HN : Hid (Calls Tryz.prog 46 #[.pointer (some ⟨B, 0, none⟩)] u fun e w' => e = .returned (.agg #[.int .i64 (kd Ts a), str (tx Ts a), .int .i64 (nm Ts a), .int .i64 (of_ Ts a)]) ∧ Below u.heap.size u w') := Lib.hid (F_now HF1.out ha)
  rw [prs_facN hd h1 h2 h3]
  have hin := kd_in hk.ok ha (by rw [h3]; decide)
  have HI1 : Hid (∀ wx {NA' : Option Addr} {nc' : Nat} {ns' : List ENode}, FSt w B base TA tc Ts AA ac as_ X NA d wx a NA' nc' ns' → Calls Tryz.prog 75 #[.pointer (some ⟨B, 0, none⟩), .string ⟨#[45]⟩] wx fun e w' => e = .returned (.bool false) ∧ FSt w B base TA tc Ts AA ac as_ X NA d w' a NA' nc' ns' ∧ Below wx.heap.size wx w') := Lib.hid (fun wx _ _ _ q => F_is [45] (by simp) false q (by omega) (by simp [h1]))
  have HI2 : Hid (∀ wx {NA' : Option Addr} {nc' : Nat} {ns' : List ENode}, FSt w B base TA tc Ts AA ac as_ X NA d wx a NA' nc' ns' → Calls Tryz.prog 75 #[.pointer (some ⟨B, 0, none⟩), .string ⟨#[40]⟩] wx fun e w' => e = .returned (.bool false) ∧ FSt w B base TA tc Ts AA ac as_ X NA d w' a NA' nc' ns' ∧ Below wx.heap.size wx w') := Lib.hid (fun wx _ _ _ q => F_is [40] (by simp) false q (by omega) (by simp [h2]))
  have HNX : Hid (∀ wx {NA' : Option Addr} {nc' : Nat} {ns' : List ENode}, FSt w B base TA tc Ts AA ac as_ X NA d wx a NA' nc' ns' → Calls Tryz.prog 47 #[.pointer (some ⟨B, 0, none⟩)] wx fun e w' => ∃ v, e = .returned v ∧ FSt w B base TA tc Ts AA ac as_ X NA d w' (a + 1) NA' nc' ns' ∧ Only wx.heap.size [B] wx w') := Lib.hid (fun wx _ _ _ q => F_next q (by omega) hlen (by rw [h3]; decide))
  have HADD : Hid (∀ wx {NA' : Option Addr} {nc' : Nat}, FSt w B base TA tc Ts AA ac as_ X NA d wx (a + 1) NA' nc' ns → Calls Tryz.prog 101 #[.pointer (some ⟨B, 0, none⟩), nodeV 1 [] (nm Ts a) (.slice none 0 0)] wx (FGo w B base TA tc Ts AA ac as_ X NA d (emit Ts (1, [], nm Ts a, []) ((a + 1)) ns))) := Lib.hid (fun wx NA' nc' q => (I_add (args := []) (A := none) (c := 0) wx q.1 (by omega) (by omega) hlen (OwnS.none_ _ _ _) (fun y hy => by cases hy)).mono (fun e w' r => FSt.igo hB q r))
  obtain ⟨R0, hR0⟩ : ∃ R0, emit Ts (1, [], nm Ts a, []) (a + 1) ns = R0 := ⟨_, rfl⟩
  rw [hR0] at HADD ⊢
  have hne : R0 ≠ .out := by rw [← hR0]; unfold emit; split <;> simp
  clear hR0
  rw [h3] at HN
  clear h1 h2 h3 ih hn
  generalize tx Ts a = xx at *
  generalize nm Ts a = nn at *
  generalize of_ Ts a = oo at *
  go_enter_defers Tryz.func102, Tryz.ntmps102
  go_wp2_with fail
  clear hu
  (with_reducible refine HN.out.mono ?_)
  rintro e u1 ⟨rfl, hb1⟩
  have HF2 : Hid (FSt w B base TA tc Ts AA ac as_ X NA d (u1.alloc (.cells #[.int .i64 1, str xx, .int .i64 nn, .int .i64 oo] 74)) a NA nc ns) := Lib.hid ((HF1.out.step hb1).alloc _)
  have HTB : Hid (Own (u1.alloc (.cells #[.int .i64 1, str xx, .int .i64 nn, .int .i64 oo] 74)) u1.heap.size 74 [.int .i64 1, str xx, .int .i64 nn, .int .i64 oo]) := Lib.hid (Own.new u1 74 #[_, _, _, _])
  have hz1 := hb1.size
  have HF2' := Lib.hid (HF1.out.step hb1)
  obtain ⟨r0, r2, r3⟩ := HF2'.out.door
  have hzw : w.heap.size < u1.heap.size := by omega
  have htb : ¬ u1.heap.size = B := by omega
  clear hb1 q0 q2 q3
  go_wp2_with fail
  (with_reducible refine (HI1.out _ HF2.out).mono ?_)
  rintro e u2 ⟨rfl, hf2, hb2⟩
  have HF20 := Lib.hid hf2
  have HT2 := Lib.hid (Own.step hb2 HTB.out)
  clear r0 r2 r3 hf2 hb2
  obtain ⟨r0, r2, r3⟩ := HF20.out.door
  go_wp2_with fail
  (with_reducible refine (HI2.out _ HF20.out).mono ?_)
  rintro e u3 ⟨rfl, hf3, hb3⟩
  have HF30 := Lib.hid hf3
  have HT3 := Lib.hid (Own.step hb3 HT2.out)
  clear r0 r2 r3 hf3 hb3
  obtain ⟨r0, r2, r3⟩ := HF30.out.door
  have b0 := HT3.out.cell 0
  have b1 := HT3.out.cell 1
  have b2 := HT3.out.cell 2
  have b3 := HT3.out.cell 3
  have bz := HT3.out.lt
  (try dsimp only [List.getElem?_cons_succ, List.getElem?_cons_zero] at b0 b1 b2 b3)
  go_wp2_with fail
  (with_reducible refine (HNX.out _ HF30.out).mono ?_)
  rintro e u4 ⟨v4, rfl, hf4, hO4⟩
  have HF40 := Lib.hid hf4
  have HT4 := Lib.hid (hO4.own HT3.out HT3.out.lt (by simpa using htb))
  clear r0 r2 r3 hf4 hO4
  obtain ⟨r0, r2, r3⟩ := HF40.out.door
  clear b0 b1 b2 b3 bz
  have b0 := HT4.out.cell 0
  have b1 := HT4.out.cell 1
  have b2 := HT4.out.cell 2
  have b3 := HT4.out.cell 3
  have bz := HT4.out.lt
  (try dsimp only [List.getElem?_cons_succ, List.getElem?_cons_zero] at b0 b1 b2 b3)
  cases R0 with
  | out => exact absurd rfl hne
  | bad o =>
    go_wp2_with fail
    (with_reducible refine (HADD.out _ HF40.out).mono ?_)
    rintro e u5 ⟨rfl, hd5⟩
    have HD := Lib.hid hd5
    clear hd5
    go_wp2_with fail
    exact F_doorBad HD.out
  | ok v9 a9 n9 =>
    go_wp2_with fail
    (with_reducible refine (HADD.out _ HF40.out).mono ?_)
    rintro e u5 ⟨NA9, nc9, rfl, hf5⟩
    have HF9 := Lib.hid hf5
    clear hf5
    go_wp2_with fail
    refine F_doorOk ?_ hd2 HF9.out
    simp [results, Tryz.results102, go_sem]
set_option maxHeartbeats 2000000 in
theorem I_facV {B base : Nat} {TA : Option Addr} {tc : Nat} {Ts : List ETok} {AA : Option Addr} {ac : Nat} {as_ : List EAssign} {k : Nat} (hk : TokK Ts) (ih : ∀ m, m < k + 1 → IPc B base TA tc Ts AA ac as_ m) {d a : Nat} {X : List Nat} {NA : Option Addr} {nc : Nat} {ns : List ENode} (w : World)
    (h : IpSt w B base TA tc Ts AA ac as_ X a d NA nc ns) (ha : a < Ts.length) (hd : ¬ 64 < d + 1) (h1 : pk Ts a ≠ [45]) (h2 : pk Ts a ≠ [40]) (h3 : kd Ts a = 2) (hq : pk Ts (a + 1) ≠ [40]) (hn : 1 + 4 * (Ts.length - a) ≤ k + 1) :
    Calls Tryz.prog 102 #[.pointer (some ⟨B, 0, none⟩)] w (IGo B base TA tc Ts AA ac as_ X d NA (prs Ts (k + 1) .fac (d + 1) a ns) w) := by
  have hmf : ∀ (fn : Fn) (first cap : Array Value) (w : World), (Instr.makeFunc fn first cap).run Tryz.prog w = .ok (.func fn first cap) w := fun _ _ _ _ => rfl
  have hlen := hk.len
  have hB := h.cells.1
  have g2 := h.cells.2.2.2.1
  have gf := h.cells.2.2.2.2.2.2
  have HF := Lib.hid (FSt.start h)
  have hd' : ¬ (64 : Int) < (d : Int) + 1 := by omega
  have hd2 : d ≤ 64 := by omega
  have hw : IntKind.i64.wrap ((d : Int) + 1) = (d : Int) + 1 := IntWalk.i64_in _ (by omega)
  have hBw : ¬ B = w.heap.size := by omega
  have hBw2 : ¬ w.heap.size = B := by omega
  clear h
  obtain ⟨u, hu⟩ : ∃ u, (w.setCell ⟨B, 2, none⟩ (.int .i64 ((d : Int) + 1))).alloc (.cells #[.pointer (some ⟨B, 0, none⟩)] 59) = u := ⟨_, rfl⟩
  have HF1 : Hid (FSt w B base TA tc Ts AA ac as_ X NA d u a NA nc ns) := Lib.hid (by rw [← hu]; exact HF.out)
  have hzu : w.heap.size < u.heap.size := HF1.out.2.1.lt
  obtain ⟨q0, q2, q3⟩ := HF1.out.door
  have HN : Hid (Calls Tryz.prog 46 #[.pointer (some ⟨B, 0, none⟩)] u fun e w' => e = .returned (.agg #[.int .i64 (kd Ts a), str (tx Ts a), .int .i64 (nm Ts a), .int .i64 (of_ Ts a)]) ∧ Below u.heap.size u w') := Lib.hid (F_now HF1.out ha)
  have hin := kd_in hk.ok ha (by rw [h3]; decide)
  have HI1 : Hid (∀ wx {NA' : Option Addr} {nc' : Nat} {ns' : List ENode}, FSt w B base TA tc Ts AA ac as_ X NA d wx a NA' nc' ns' → Calls Tryz.prog 75 #[.pointer (some ⟨B, 0, none⟩), .string ⟨#[45]⟩] wx fun e w' => e = .returned (.bool false) ∧ FSt w B base TA tc Ts AA ac as_ X NA d w' a NA' nc' ns' ∧ Below wx.heap.size wx w') := Lib.hid (fun wx _ _ _ q => F_is [45] (by simp) false q (by omega) (by simp [h1]))
  have HI2 : Hid (∀ wx {NA' : Option Addr} {nc' : Nat} {ns' : List ENode}, FSt w B base TA tc Ts AA ac as_ X NA d wx a NA' nc' ns' → Calls Tryz.prog 75 #[.pointer (some ⟨B, 0, none⟩), .string ⟨#[40]⟩] wx fun e w' => e = .returned (.bool false) ∧ FSt w B base TA tc Ts AA ac as_ X NA d w' a NA' nc' ns' ∧ Below wx.heap.size wx w') := Lib.hid (fun wx _ _ _ q => F_is [40] (by simp) false q (by omega) (by simp [h2]))
  have HI3 : Hid (∀ wx {NA' : Option Addr} {nc' : Nat} {ns' : List ENode}, FSt w B base TA tc Ts AA ac as_ X NA d wx (a + 1) NA' nc' ns' → Calls Tryz.prog 75 #[.pointer (some ⟨B, 0, none⟩), .string ⟨#[40]⟩] wx fun e w' => e = .returned (.bool false) ∧ FSt w B base TA tc Ts AA ac as_ X NA d w' (a + 1) NA' nc' ns' ∧ Below wx.heap.size wx w') := Lib.hid (fun wx _ _ _ q => F_is [40] (by simp) false q (by omega) (by simp [hq]))
  have HNX : Hid (∀ wx {NA' : Option Addr} {nc' : Nat} {ns' : List ENode}, FSt w B base TA tc Ts AA ac as_ X NA d wx a NA' nc' ns' → Calls Tryz.prog 47 #[.pointer (some ⟨B, 0, none⟩)] wx fun e w' => ∃ v, e = .returned v ∧ FSt w B base TA tc Ts AA ac as_ X NA d w' (a + 1) NA' nc' ns' ∧ Only wx.heap.size [B] wx w') := Lib.hid (fun wx _ _ _ q => F_next q (by omega) hlen (by rw [h3]; decide))
  have HADD : Hid (∀ wx {NA' : Option Addr} {nc' : Nat}, FSt w B base TA tc Ts AA ac as_ X NA d wx (a + 1) NA' nc' ns → Calls Tryz.prog 101 #[.pointer (some ⟨B, 0, none⟩), nodeV 2 (tx Ts a) 0 (.slice none 0 0)] wx (FGo w B base TA tc Ts AA ac as_ X NA d (emit Ts (2, tx Ts a, 0, []) ((a + 1)) ns))) := Lib.hid (fun wx NA' nc' q => (I_add (args := []) (A := none) (c := 0) wx q.1 (by omega) (by omega) hlen (OwnS.none_ _ _ _) (fun y hy => by cases hy)).mono (fun e w' r => FSt.igo hB q r))
  rw [prs_facV hd h1 h2 h3 hq]
  obtain ⟨R0, hR0⟩ : ∃ R0, emit Ts (2, tx Ts a, 0, []) (a + 1) ns = R0 := ⟨_, rfl⟩
  rw [hR0] at HADD ⊢
  have hne : R0 ≠ .out := by rw [← hR0]; unfold emit; split <;> simp
  clear hR0
  rw [h3] at HN
  clear h1 h2 h3 hq ih hn
  generalize tx Ts a = xx at *
  generalize nm Ts a = nn at *
  generalize of_ Ts a = oo at *
  go_enter_defers Tryz.func102, Tryz.ntmps102
  go_wp2_with fail
  clear hu
  (with_reducible refine HN.out.mono ?_)
  rintro e u1 ⟨rfl, hb1⟩
  have HF2 : Hid (FSt w B base TA tc Ts AA ac as_ X NA d (u1.alloc (.cells #[.int .i64 2, str xx, .int .i64 nn, .int .i64 oo] 74)) a NA nc ns) := Lib.hid ((HF1.out.step hb1).alloc _)
  have HTB : Hid (Own (u1.alloc (.cells #[.int .i64 2, str xx, .int .i64 nn, .int .i64 oo] 74)) u1.heap.size 74 [.int .i64 2, str xx, .int .i64 nn, .int .i64 oo]) := Lib.hid (Own.new u1 74 #[_, _, _, _])
  have hz1 := hb1.size
  have HF2' := Lib.hid (HF1.out.step hb1)
  obtain ⟨r0, r2, r3⟩ := HF2'.out.door
  have hzw : w.heap.size < u1.heap.size := by omega
  have htb : ¬ u1.heap.size = B := by omega
  clear hb1 q0 q2 q3
  go_wp2_with fail
  (with_reducible refine (HI1.out _ HF2.out).mono ?_)
  rintro e u2 ⟨rfl, hf2, hb2⟩
  have HF20 := Lib.hid hf2
  have HT2 := Lib.hid (Own.step hb2 HTB.out)
  clear r0 r2 r3 hf2 hb2
  obtain ⟨r0, r2, r3⟩ := HF20.out.door
  go_wp2_with fail
  (with_reducible refine (HI2.out _ HF20.out).mono ?_)
  rintro e u3 ⟨rfl, hf3, hb3⟩
  have HF30 := Lib.hid hf3
  have HT3 := Lib.hid (Own.step hb3 HT2.out)
  clear r0 r2 r3 hf3 hb3
  obtain ⟨r0, r2, r3⟩ := HF30.out.door
  have b0 := HT3.out.cell 0
  have b1 := HT3.out.cell 1
  have b2 := HT3.out.cell 2
  have b3 := HT3.out.cell 3
  have bz := HT3.out.lt
  (try dsimp only [List.getElem?_cons_succ, List.getElem?_cons_zero] at b0 b1 b2 b3)
  go_wp2_with fail
  (with_reducible refine (HNX.out _ HF30.out).mono ?_)
  rintro e u4 ⟨v4, rfl, hf4, hO4⟩
  have HF40 := Lib.hid hf4
  have HT4 := Lib.hid (hO4.own HT3.out HT3.out.lt (by simpa using htb))
  clear r0 r2 r3 hf4 hO4
  obtain ⟨r0, r2, r3⟩ := HF40.out.door
  clear b0 b1 b2 b3 bz
  go_wp2_with fail
  (with_reducible refine (HI3.out _ HF40.out).mono ?_)
  rintro e u5 ⟨rfl, hf5, hb5⟩
  have HF50 := Lib.hid hf5
  have HT5 := Lib.hid (Own.step hb5 HT4.out)
  clear r0 r2 r3 hf5 hb5
  obtain ⟨r0, r2, r3⟩ := HF50.out.door
  have b0 := HT5.out.cell 0
  have b1 := HT5.out.cell 1
  have b2 := HT5.out.cell 2
  have b3 := HT5.out.cell 3
  have bz := HT5.out.lt
  (try dsimp only [List.getElem?_cons_succ, List.getElem?_cons_zero] at b0 b1 b2 b3)
  cases R0 with
  | out => exact absurd rfl hne
  | bad o =>
    go_wp2_with fail
    (with_reducible refine (HADD.out _ HF50.out).mono ?_)
    rintro e u6 ⟨rfl, hd6⟩
    have HD := Lib.hid hd6
    clear hd6
    go_wp2_with fail
    exact F_doorBad HD.out
  | ok v9 a9 n9 =>
    go_wp2_with fail
    (with_reducible refine (HADD.out _ HF50.out).mono ?_)
    rintro e u6 ⟨NA9, nc9, rfl, hf6⟩
    have HF9 := Lib.hid hf6
    clear hf6
    go_wp2_with fail
    refine F_doorOk ?_ hd2 HF9.out
    simp [results, Tryz.results102, go_sem]
set_option maxHeartbeats 2000000 in
theorem I_facC {B base : Nat} {TA : Option Addr} {tc : Nat} {Ts : List ETok} {AA : Option Addr} {ac : Nat} {as_ : List EAssign} {k : Nat} (hk : TokK Ts) (ih : ∀ m, m < k + 1 → IPc B base TA tc Ts AA ac as_ m) {d a : Nat} {X : List Nat} {NA : Option Addr} {nc : Nat} {ns : List ENode} (w : World)
    (h : IpSt w B base TA tc Ts AA ac as_ X a d NA nc ns) (ha : a < Ts.length) (hd : ¬ 64 < d + 1) (h1 : pk Ts a ≠ [45]) (h2 : pk Ts a ≠ [40]) (h3 : kd Ts a = 2) (hq : pk Ts (a + 1) = [40]) (hn : 1 + 4 * (Ts.length - a) ≤ k + 1) :
    Calls Tryz.prog 102 #[.pointer (some ⟨B, 0, none⟩)] w (IGo B base TA tc Ts AA ac as_ X d NA (prs Ts (k + 1) .fac (d + 1) a ns) w) := by
  have hmf : ∀ (fn : Fn) (first cap : Array Value) (w : World), (Instr.makeFunc fn first cap).run Tryz.prog w = .ok (.func fn first cap) w := fun _ _ _ _ => rfl
  have hlen := hk.len
  have hB := h.cells.1
  have g2 := h.cells.2.2.2.1
  have gf := h.cells.2.2.2.2.2.2
  have HF := Lib.hid (FSt.start h)
  have hd' : ¬ (64 : Int) < (d : Int) + 1 := by omega
  have hd2 : d ≤ 64 := by omega
  have hw : IntKind.i64.wrap ((d : Int) + 1) = (d : Int) + 1 := IntWalk.i64_in _ (by omega)
  have hBw : ¬ B = w.heap.size := by omega
  have hBw2 : ¬ w.heap.size = B := by omega
  clear h
  obtain ⟨u, hu⟩ : ∃ u, (w.setCell ⟨B, 2, none⟩ (.int .i64 ((d : Int) + 1))).alloc (.cells #[.pointer (some ⟨B, 0, none⟩)] 59) = u := ⟨_, rfl⟩
  have HF1 : Hid (FSt w B base TA tc Ts AA ac as_ X NA d u a NA nc ns) := Lib.hid (by rw [← hu]; exact HF.out)
  have hzu : w.heap.size < u.heap.size := HF1.out.2.1.lt
  obtain ⟨q0, q2, q3⟩ := HF1.out.door
  have HN : Hid (Calls Tryz.prog 46 #[.pointer (some ⟨B, 0, none⟩)] u fun e w' => e = .returned (.agg #[.int .i64 (kd Ts a), str (tx Ts a), .int .i64 (nm Ts a), .int .i64 (of_ Ts a)]) ∧ Below u.heap.size u w') := Lib.hid (F_now HF1.out ha)
  have hin := kd_in hk.ok ha (by rw [h3]; decide)
  have HI1 : Hid (∀ wx {NA' : Option Addr} {nc' : Nat} {ns' : List ENode}, FSt w B base TA tc Ts AA ac as_ X NA d wx a NA' nc' ns' → Calls Tryz.prog 75 #[.pointer (some ⟨B, 0, none⟩), .string ⟨#[45]⟩] wx fun e w' => e = .returned (.bool false) ∧ FSt w B base TA tc Ts AA ac as_ X NA d w' a NA' nc' ns' ∧ Below wx.heap.size wx w') := Lib.hid (fun wx _ _ _ q => F_is [45] (by simp) false q (by omega) (by simp [h1]))
  have HI2 : Hid (∀ wx {NA' : Option Addr} {nc' : Nat} {ns' : List ENode}, FSt w B base TA tc Ts AA ac as_ X NA d wx a NA' nc' ns' → Calls Tryz.prog 75 #[.pointer (some ⟨B, 0, none⟩), .string ⟨#[40]⟩] wx fun e w' => e = .returned (.bool false) ∧ FSt w B base TA tc Ts AA ac as_ X NA d w' a NA' nc' ns' ∧ Below wx.heap.size wx w') := Lib.hid (fun wx _ _ _ q => F_is [40] (by simp) false q (by omega) (by simp [h2]))
  have HI3 : Hid (∀ wx {NA' : Option Addr} {nc' : Nat} {ns' : List ENode}, FSt w B base TA tc Ts AA ac as_ X NA d wx (a + 1) NA' nc' ns' → Calls Tryz.prog 75 #[.pointer (some ⟨B, 0, none⟩), .string ⟨#[40]⟩] wx fun e w' => e = .returned (.bool true) ∧ FSt w B base TA tc Ts AA ac as_ X NA d w' (a + 1) NA' nc' ns' ∧ Below wx.heap.size wx w') := Lib.hid (fun wx _ _ _ q => F_is [40] (by simp) true q (by omega) (by simp [hq]))
  have HNX : Hid (∀ wx {NA' : Option Addr} {nc' : Nat} {ns' : List ENode}, FSt w B base TA tc Ts AA ac as_ X NA d wx a NA' nc' ns' → Calls Tryz.prog 47 #[.pointer (some ⟨B, 0, none⟩)] wx fun e w' => ∃ v, e = .returned v ∧ FSt w B base TA tc Ts AA ac as_ X NA d w' (a + 1) NA' nc' ns' ∧ Only wx.heap.size [B] wx w') := Lib.hid (fun wx _ _ _ q => F_next q (by omega) hlen (by rw [h3]; decide))
  have hin2 := pk_in hk.ok hin (by rw [hq]; simp)
  have hE := prs_ends hk.ok k (.args (tx Ts a) []) (d + 1 + 1) (a + 2) ns hin2 (by show 4 + _ ≤ k; omega)
  have HADD : Hid (∀ wx {NA' : Option Addr} {nc' : Nat}, FSt w B base TA tc Ts AA ac as_ X NA d wx (a + 1) NA' nc' ns → Calls Tryz.prog 112 #[.pointer (some ⟨B, 0, none⟩), str (tx Ts a)] wx (FGo w B base TA tc Ts AA ac as_ X NA d (prs Ts k (.args (tx Ts a) []) (d + 1 + 1) (a + 2) ns))) := Lib.hid (fun wx NA' nc' q => ((ih k (by omega)).cal (tx Ts a) (d + 1) (a + 1) _ NA' nc' ns wx q.1 hin2 (by omega) hq (by omega)).mono (fun e w' r => FSt.igo hB q r))
  rw [prs_facC hd h1 h2 h3 hq]
  obtain ⟨R0, hR0⟩ : ∃ R0, prs Ts k (.args (tx Ts a) []) (d + 1 + 1) (a + 2) ns = R0 := ⟨_, rfl⟩
  rw [hR0] at HADD ⊢
  have hne : R0 ≠ .out := by rw [← hR0]; exact hE.1
  clear hR0 hE
  rw [h3] at HN
  clear h1 h2 h3 hq ih hn
  generalize tx Ts a = xx at *
  generalize nm Ts a = nn at *
  generalize of_ Ts a = oo at *
  go_enter_defers Tryz.func102, Tryz.ntmps102
  go_wp2_with fail
  clear hu
  (with_reducible refine HN.out.mono ?_)
  rintro e u1 ⟨rfl, hb1⟩
  have HF2 : Hid (FSt w B base TA tc Ts AA ac as_ X NA d (u1.alloc (.cells #[.int .i64 2, str xx, .int .i64 nn, .int .i64 oo] 74)) a NA nc ns) := Lib.hid ((HF1.out.step hb1).alloc _)
  have HTB : Hid (Own (u1.alloc (.cells #[.int .i64 2, str xx, .int .i64 nn, .int .i64 oo] 74)) u1.heap.size 74 [.int .i64 2, str xx, .int .i64 nn, .int .i64 oo]) := Lib.hid (Own.new u1 74 #[_, _, _, _])
  have hz1 := hb1.size
  have HF2' := Lib.hid (HF1.out.step hb1)
  obtain ⟨r0, r2, r3⟩ := HF2'.out.door
  have hzw : w.heap.size < u1.heap.size := by omega
  have htb : ¬ u1.heap.size = B := by omega
  clear hb1 q0 q2 q3
  go_wp2_with fail
  (with_reducible refine (HI1.out _ HF2.out).mono ?_)
  rintro e u2 ⟨rfl, hf2, hb2⟩
  have HF20 := Lib.hid hf2
  have HT2 := Lib.hid (Own.step hb2 HTB.out)
  clear r0 r2 r3 hf2 hb2
  obtain ⟨r0, r2, r3⟩ := HF20.out.door
  go_wp2_with fail
  (with_reducible refine (HI2.out _ HF20.out).mono ?_)
  rintro e u3 ⟨rfl, hf3, hb3⟩
  have HF30 := Lib.hid hf3
  have HT3 := Lib.hid (Own.step hb3 HT2.out)
  clear r0 r2 r3 hf3 hb3
  obtain ⟨r0, r2, r3⟩ := HF30.out.door
  have b0 := HT3.out.cell 0
  have b1 := HT3.out.cell 1
  have b2 := HT3.out.cell 2
  have b3 := HT3.out.cell 3
  have bz := HT3.out.lt
  (try dsimp only [List.getElem?_cons_succ, List.getElem?_cons_zero] at b0 b1 b2 b3)
  go_wp2_with fail
  (with_reducible refine (HNX.out _ HF30.out).mono ?_)
  rintro e u4 ⟨v4, rfl, hf4, hO4⟩
  have HF40 := Lib.hid hf4
  have HT4 := Lib.hid (hO4.own HT3.out HT3.out.lt (by simpa using htb))
  clear r0 r2 r3 hf4 hO4
  obtain ⟨r0, r2, r3⟩ := HF40.out.door
  clear b0 b1 b2 b3 bz
  go_wp2_with fail
  (with_reducible refine (HI3.out _ HF40.out).mono ?_)
  rintro e u5 ⟨rfl, hf5, hb5⟩
  have HF50 := Lib.hid hf5
  have HT5 := Lib.hid (Own.step hb5 HT4.out)
  clear r0 r2 r3 hf5 hb5
  obtain ⟨r0, r2, r3⟩ := HF50.out.door
  have b0 := HT5.out.cell 0
  have b1 := HT5.out.cell 1
  have b2 := HT5.out.cell 2
  have b3 := HT5.out.cell 3
  have bz := HT5.out.lt
  (try dsimp only [List.getElem?_cons_succ, List.getElem?_cons_zero] at b0 b1 b2 b3)
  cases R0 with
  | out => exact absurd rfl hne
  | bad o =>
    go_wp2_with fail
    (with_reducible refine (HADD.out _ HF50.out).mono ?_)
    rintro e u6 ⟨rfl, hd6⟩
    have HD := Lib.hid hd6
    clear hd6
    go_wp2_with fail
    exact F_doorBad HD.out
  | ok v9 a9 n9 =>
    go_wp2_with fail
    (with_reducible refine (HADD.out _ HF50.out).mono ?_)
    rintro e u6 ⟨NA9, nc9, rfl, hf6⟩
    have HF9 := Lib.hid hf6
    clear hf6
    go_wp2_with fail
    refine F_doorOk ?_ hd2 HF9.out
    simp [results, Tryz.results102, go_sem]
set_option maxHeartbeats 2000000 in
theorem I_facM {B base : Nat} {TA : Option Addr} {tc : Nat} {Ts : List ETok} {AA : Option Addr} {ac : Nat} {as_ : List EAssign} {k : Nat} (hk : TokK Ts) (ih : ∀ m, m < k + 1 → IPc B base TA tc Ts AA ac as_ m) {d a : Nat} {X : List Nat} {NA : Option Addr} {nc : Nat} {ns : List ENode} (w : World)
    (h : IpSt w B base TA tc Ts AA ac as_ X a d NA nc ns) (ha : a < Ts.length) (hd : ¬ 64 < d + 1) (h1 : pk Ts a = [45]) (hn : 1 + 4 * (Ts.length - a) ≤ k + 1) :
    Calls Tryz.prog 102 #[.pointer (some ⟨B, 0, none⟩)] w (IGo B base TA tc Ts AA ac as_ X d NA (prs Ts (k + 1) .fac (d + 1) a ns) w) := by
  have hmf : ∀ (fn : Fn) (first cap : Array Value) (w : World), (Instr.makeFunc fn first cap).run Tryz.prog w = .ok (.func fn first cap) w := fun _ _ _ _ => rfl
  have hlen := hk.len
  have hB := h.cells.1
  have g2 := h.cells.2.2.2.1
  have gf := h.cells.2.2.2.2.2.2
  have HF := Lib.hid (FSt.start h)
  have hd' : ¬ (64 : Int) < (d : Int) + 1 := by omega
  have hd2 : d ≤ 64 := by omega
  have hw : IntKind.i64.wrap ((d : Int) + 1) = (d : Int) + 1 := IntWalk.i64_in _ (by omega)
  have hBw : ¬ B = w.heap.size := by omega
  have hBw2 : ¬ w.heap.size = B := by omega
  clear h
  obtain ⟨u, hu⟩ : ∃ u, (w.setCell ⟨B, 2, none⟩ (.int .i64 ((d : Int) + 1))).alloc (.cells #[.pointer (some ⟨B, 0, none⟩)] 59) = u := ⟨_, rfl⟩
  have HF1 : Hid (FSt w B base TA tc Ts AA ac as_ X NA d u a NA nc ns) := Lib.hid (by rw [← hu]; exact HF.out)
  have hzu : w.heap.size < u.heap.size := HF1.out.2.1.lt
  obtain ⟨q0, q2, q3⟩ := HF1.out.door
  have HN : Hid (Calls Tryz.prog 46 #[.pointer (some ⟨B, 0, none⟩)] u fun e w' => e = .returned (.agg #[.int .i64 (kd Ts a), str (tx Ts a), .int .i64 (nm Ts a), .int .i64 (of_ Ts a)]) ∧ Below u.heap.size u w') := Lib.hid (F_now HF1.out ha)
  have hin := pk_in hk.ok ha (by rw [h1]; simp)
  have hE := prs_ends hk.ok k .fac (d + 1 + 1) (a + 1) ns hin (by show 1 + _ ≤ k; omega)
  have HI1 : Hid (∀ wx {NA' : Option Addr} {nc' : Nat} {ns' : List ENode}, FSt w B base TA tc Ts AA ac as_ X NA d wx a NA' nc' ns' → Calls Tryz.prog 75 #[.pointer (some ⟨B, 0, none⟩), .string ⟨#[45]⟩] wx fun e w' => e = .returned (.bool true) ∧ FSt w B base TA tc Ts AA ac as_ X NA d w' a NA' nc' ns' ∧ Below wx.heap.size wx w') := Lib.hid (fun wx _ _ _ q => F_is [45] (by simp) true q (by omega) (by simp [h1]))
  have HNX : Hid (∀ wx {NA' : Option Addr} {nc' : Nat} {ns' : List ENode}, FSt w B base TA tc Ts AA ac as_ X NA d wx a NA' nc' ns' → Calls Tryz.prog 47 #[.pointer (some ⟨B, 0, none⟩)] wx fun e w' => ∃ v, e = .returned v ∧ FSt w B base TA tc Ts AA ac as_ X NA d w' (a + 1) NA' nc' ns' ∧ Only wx.heap.size [B] wx w') := Lib.hid (fun wx _ _ _ q => F_next q (by omega) hlen (pk_kd h1 (by simp)))
  have HREC : Hid (∀ wx {NA' : Option Addr} {nc' : Nat}, FSt w B base TA tc Ts AA ac as_ X NA d wx (a + 1) NA' nc' ns → Calls Tryz.prog 102 #[.pointer (some ⟨B, 0, none⟩)] wx (FGo w B base TA tc Ts AA ac as_ X NA d (prs Ts k .fac (d + 1 + 1) (a + 1) ns))) := Lib.hid (fun wx NA' nc' q => ((ih k (by omega)).fac (d + 1) (a + 1) _ NA' nc' ns wx q.1 hin (by omega) (by omega)).mono (fun e w' r => FSt.igo hB q r))
  rw [prs_facM hd h1]
  cases hr : prs Ts k .fac (d + 1 + 1) (a + 1) ns with
  | out => exact absurd hr hE.1
  | bad o =>
    rw [hr] at HREC
    dsimp only
    clear h1 ih hn hE hr
    generalize kd Ts a = kk at *
    generalize tx Ts a = xx at *
    generalize nm Ts a = nn at *
    generalize of_ Ts a = oo at *
    go_enter_defers Tryz.func102, Tryz.ntmps102
    go_wp2_with fail
    clear hu
    (with_reducible refine HN.out.mono ?_)
    rintro e u1 ⟨rfl, hb1⟩
    have HF2 : Hid (FSt w B base TA tc Ts AA ac as_ X NA d (u1.alloc (.cells #[.int .i64 kk, str xx, .int .i64 nn, .int .i64 oo] 74)) a NA nc ns) := Lib.hid ((HF1.out.step hb1).alloc _)
    have HTB : Hid (Own (u1.alloc (.cells #[.int .i64 kk, str xx, .int .i64 nn, .int .i64 oo] 74)) u1.heap.size 74 [.int .i64 kk, str xx, .int .i64 nn, .int .i64 oo]) := Lib.hid (Own.new u1 74 #[_, _, _, _])
    have hz1 := hb1.size
    have HF2' := Lib.hid (HF1.out.step hb1)
    obtain ⟨r0, r2, r3⟩ := HF2'.out.door
    have hzw : w.heap.size < u1.heap.size := by omega
    have htb : ¬ u1.heap.size = B := by omega
    clear hb1 q0 q2 q3
    go_wp2_with fail
    (with_reducible refine (HI1.out _ HF2.out).mono ?_)
    rintro e u2 ⟨rfl, hf2, hb2⟩
    have HF20 := Lib.hid hf2
    have HT2 := Lib.hid (Own.step hb2 HTB.out)
    clear r0 r2 r3 hf2 hb2
    obtain ⟨r0, r2, r3⟩ := HF20.out.door
    go_wp2_with fail
    (with_reducible refine (HNX.out _ HF20.out).mono ?_)
    rintro e u3 ⟨v3, rfl, hf3, hO3⟩
    have HF30 := Lib.hid hf3
    have HT3 := Lib.hid (hO3.own HT2.out HT2.out.lt (by simpa using htb))
    clear r0 r2 r3 hf3 hO3
    obtain ⟨r0, r2, r3⟩ := HF30.out.door
    go_wp2_with fail
    (with_reducible refine (HREC.out _ HF30.out).mono ?_)
    rintro e u4 ⟨rfl, hd4⟩
    have HD := Lib.hid hd4
    clear hd4
    go_wp2_with fail
    exact F_doorBad HD.out
  | ok v a1 n1 =>
    rw [hr] at HREC
    dsimp only
    have h6 := hE.2 v a1 n1 hr
    have h6' : a + 1 + 1 ≤ a1 ∧ a1 < Ts.length := h6
    have HADD : Hid (∀ wx {NA' : Option Addr} {nc' : Nat}, FSt w B base TA tc Ts AA ac as_ X NA d wx a1 NA' nc' n1 → Calls Tryz.prog 101 #[.pointer (some ⟨B, 0, none⟩), nodeV 3 [] 0 (.slice (some ⟨wx.heap.size, 0, none⟩) 1 1)] (wx.alloc (.cells #[.int .i64 v] 3)) (FGo w B base TA tc Ts AA ac as_ X NA d (emit Ts (3, [], 0, [v]) a1 n1))) := Lib.hid (fun wx NA' nc' q => (I_add (args := [v]) _ (q.1.fresh_ _) (by omega) (by omega) hlen (OwnS.some_ (Own.new wx 3 #[.int .i64 v]) rfl (by simp)) (fun y hy => by
        obtain rfl : y = wx.heap.size := by simpa [gOf] using hy
        exact fun r => by have := (q.1.2.xlt _ r).1; omega)).mono (fun e w' r => FSt.igo hB (q.alloc _) r))
    obtain ⟨R0, hR0⟩ : ∃ R0, emit Ts (3, [], 0, [v]) a1 n1 = R0 := ⟨_, rfl⟩
    rw [hR0] at HADD ⊢
    have hne : R0 ≠ .out := by rw [← hR0]; unfold emit; split <;> simp
    clear hR0
    clear h1 ih hn hE hr h6
    generalize kd Ts a = kk at *
    generalize tx Ts a = xx at *
    generalize nm Ts a = nn at *
    generalize of_ Ts a = oo at *
    go_enter_defers Tryz.func102, Tryz.ntmps102
    go_wp2_with fail
    clear hu
    (with_reducible refine HN.out.mono ?_)
    rintro e u1 ⟨rfl, hb1⟩
    have HF2 : Hid (FSt w B base TA tc Ts AA ac as_ X NA d (u1.alloc (.cells #[.int .i64 kk, str xx, .int .i64 nn, .int .i64 oo] 74)) a NA nc ns) := Lib.hid ((HF1.out.step hb1).alloc _)
    have HTB : Hid (Own (u1.alloc (.cells #[.int .i64 kk, str xx, .int .i64 nn, .int .i64 oo] 74)) u1.heap.size 74 [.int .i64 kk, str xx, .int .i64 nn, .int .i64 oo]) := Lib.hid (Own.new u1 74 #[_, _, _, _])
    have hz1 := hb1.size
    have HF2' := Lib.hid (HF1.out.step hb1)
    obtain ⟨r0, r2, r3⟩ := HF2'.out.door
    have hzw : w.heap.size < u1.heap.size := by omega
    have htb : ¬ u1.heap.size = B := by omega
    clear hb1 q0 q2 q3
    go_wp2_with fail
    (with_reducible refine (HI1.out _ HF2.out).mono ?_)
    rintro e u2 ⟨rfl, hf2, hb2⟩
    have HF20 := Lib.hid hf2
    have HT2 := Lib.hid (Own.step hb2 HTB.out)
    clear r0 r2 r3 hf2 hb2
    obtain ⟨r0, r2, r3⟩ := HF20.out.door
    go_wp2_with fail
    (with_reducible refine (HNX.out _ HF20.out).mono ?_)
    rintro e u3 ⟨v3, rfl, hf3, hO3⟩
    have HF30 := Lib.hid hf3
    have HT3 := Lib.hid (hO3.own HT2.out HT2.out.lt (by simpa using htb))
    clear r0 r2 r3 hf3 hO3
    obtain ⟨r0, r2, r3⟩ := HF30.out.door
    go_wp2_with fail
    (with_reducible refine (HREC.out _ HF30.out).mono ?_)
    rintro e u4 ⟨NA4, nc4, rfl, hf4⟩
    have HF40 := Lib.hid hf4
    clear r0 r2 r3 hf4
    obtain ⟨r0, r2, r3⟩ := HF40.out.door
    cases R0 with
    | out => exact absurd rfl hne
    | bad o =>
      go_wp2_with fail
      (with_reducible refine (HADD.out _ HF40.out).mono ?_)
      rintro e u5 ⟨rfl, hd5⟩
      have HD := Lib.hid hd5
      clear hd5
      go_wp2_with fail
      exact F_doorBad HD.out
    | ok v9 a9 n9 =>
      go_wp2_with fail
      (with_reducible refine (HADD.out _ HF40.out).mono ?_)
      rintro e u5 ⟨NA9, nc9, rfl, hf5⟩
      have HF9 := Lib.hid hf5
      clear hf5
      go_wp2_with fail
      refine F_doorOk ?_ hd2 HF9.out
      simp [results, Tryz.results102, go_sem]
set_option maxHeartbeats 2000000 in
theorem I_facP {B base : Nat} {TA : Option Addr} {tc : Nat} {Ts : List ETok} {AA : Option Addr} {ac : Nat} {as_ : List EAssign} {k : Nat} (hk : TokK Ts) (ih : ∀ m, m < k + 1 → IPc B base TA tc Ts AA ac as_ m) {d a : Nat} {X : List Nat} {NA : Option Addr} {nc : Nat} {ns : List ENode} (w : World)
    (h : IpSt w B base TA tc Ts AA ac as_ X a d NA nc ns) (ha : a < Ts.length) (hd : ¬ 64 < d + 1) (h2 : pk Ts a = [40]) (hn : 1 + 4 * (Ts.length - a) ≤ k + 1) :
    Calls Tryz.prog 102 #[.pointer (some ⟨B, 0, none⟩)] w (IGo B base TA tc Ts AA ac as_ X d NA (prs Ts (k + 1) .fac (d + 1) a ns) w) := by
  have hmf : ∀ (fn : Fn) (first cap : Array Value) (w : World), (Instr.makeFunc fn first cap).run Tryz.prog w = .ok (.func fn first cap) w := fun _ _ _ _ => rfl
  have hlen := hk.len
  have hB := h.cells.1
  have g2 := h.cells.2.2.2.1
  have gf := h.cells.2.2.2.2.2.2
  have HF := Lib.hid (FSt.start h)
  have hd' : ¬ (64 : Int) < (d : Int) + 1 := by omega
  have hd2 : d ≤ 64 := by omega
  have hw : IntKind.i64.wrap ((d : Int) + 1) = (d : Int) + 1 := IntWalk.i64_in _ (by omega)
  have hBw : ¬ B = w.heap.size := by omega
  have hBw2 : ¬ w.heap.size = B := by omega
  clear h
  obtain ⟨u, hu⟩ : ∃ u, (w.setCell ⟨B, 2, none⟩ (.int .i64 ((d : Int) + 1))).alloc (.cells #[.pointer (some ⟨B, 0, none⟩)] 59) = u := ⟨_, rfl⟩
  have HF1 : Hid (FSt w B base TA tc Ts AA ac as_ X NA d u a NA nc ns) := Lib.hid (by rw [← hu]; exact HF.out)
  have hzu : w.heap.size < u.heap.size := HF1.out.2.1.lt
  obtain ⟨q0, q2, q3⟩ := HF1.out.door
  have HN : Hid (Calls Tryz.prog 46 #[.pointer (some ⟨B, 0, none⟩)] u fun e w' => e = .returned (.agg #[.int .i64 (kd Ts a), str (tx Ts a), .int .i64 (nm Ts a), .int .i64 (of_ Ts a)]) ∧ Below u.heap.size u w') := Lib.hid (F_now HF1.out ha)
  have h1 : pk Ts a ≠ [45] := by rw [h2]; decide
  have hin := pk_in hk.ok ha (by rw [h2]; simp)
  have hE := prs_ends hk.ok k (.bin true) (d + 1 + 1) (a + 1) ns hin (by show 3 + _ ≤ k; omega)
  have HI1 : Hid (∀ wx {NA' : Option Addr} {nc' : Nat} {ns' : List ENode}, FSt w B base TA tc Ts AA ac as_ X NA d wx a NA' nc' ns' → Calls Tryz.prog 75 #[.pointer (some ⟨B, 0, none⟩), .string ⟨#[45]⟩] wx fun e w' => e = .returned (.bool false) ∧ FSt w B base TA tc Ts AA ac as_ X NA d w' a NA' nc' ns' ∧ Below wx.heap.size wx w') := Lib.hid (fun wx _ _ _ q => F_is [45] (by simp) false q (by omega) (by simp [h1]))
  have HI2 : Hid (∀ wx {NA' : Option Addr} {nc' : Nat} {ns' : List ENode}, FSt w B base TA tc Ts AA ac as_ X NA d wx a NA' nc' ns' → Calls Tryz.prog 75 #[.pointer (some ⟨B, 0, none⟩), .string ⟨#[40]⟩] wx fun e w' => e = .returned (.bool true) ∧ FSt w B base TA tc Ts AA ac as_ X NA d w' a NA' nc' ns' ∧ Below wx.heap.size wx w') := Lib.hid (fun wx _ _ _ q => F_is [40] (by simp) true q (by omega) (by simp [h2]))
  have HNX : Hid (∀ wx {NA' : Option Addr} {nc' : Nat} {ns' : List ENode}, FSt w B base TA tc Ts AA ac as_ X NA d wx a NA' nc' ns' → Calls Tryz.prog 47 #[.pointer (some ⟨B, 0, none⟩)] wx fun e w' => ∃ v, e = .returned v ∧ FSt w B base TA tc Ts AA ac as_ X NA d w' (a + 1) NA' nc' ns' ∧ Only wx.heap.size [B] wx w') := Lib.hid (fun wx _ _ _ q => F_next q (by omega) hlen (pk_kd h2 (by simp)))
  have HREC : Hid (∀ wx {NA' : Option Addr} {nc' : Nat}, FSt w B base TA tc Ts AA ac as_ X NA d wx (a + 1) NA' nc' ns → Calls Tryz.prog 50 #[.pointer (some ⟨B, 0, none⟩)] wx (FGo w B base TA tc Ts AA ac as_ X NA d (prs Ts k (.bin true) (d + 1 + 1) (a + 1) ns))) := Lib.hid (fun wx NA' nc' q => ((ih k (by omega)).bin true (d + 1) (a + 1) _ NA' nc' ns wx q.1 hin (by omega) (by show 3 + _ ≤ k; omega)).mono (fun e w' r => FSt.igo hB q r))
  rw [prs_facP hd h2]
  cases hr : prs Ts k (.bin true) (d + 1 + 1) (a + 1) ns with
  | out => exact absurd hr hE.1
  | bad o =>
    rw [hr] at HREC
    dsimp only
    clear h1 h2 ih hn hE hr
    generalize kd Ts a = kk at *
    generalize tx Ts a = xx at *
    generalize nm Ts a = nn at *
    generalize of_ Ts a = oo at *
    go_enter_defers Tryz.func102, Tryz.ntmps102
    go_wp2_with fail
    clear hu
    (with_reducible refine HN.out.mono ?_)
    rintro e u1 ⟨rfl, hb1⟩
    have HF2 : Hid (FSt w B base TA tc Ts AA ac as_ X NA d (u1.alloc (.cells #[.int .i64 kk, str xx, .int .i64 nn, .int .i64 oo] 74)) a NA nc ns) := Lib.hid ((HF1.out.step hb1).alloc _)
    have HTB : Hid (Own (u1.alloc (.cells #[.int .i64 kk, str xx, .int .i64 nn, .int .i64 oo] 74)) u1.heap.size 74 [.int .i64 kk, str xx, .int .i64 nn, .int .i64 oo]) := Lib.hid (Own.new u1 74 #[_, _, _, _])
    have hz1 := hb1.size
    have HF2' := Lib.hid (HF1.out.step hb1)
    obtain ⟨r0, r2, r3⟩ := HF2'.out.door
    have hzw : w.heap.size < u1.heap.size := by omega
    have htb : ¬ u1.heap.size = B := by omega
    clear hb1 q0 q2 q3
    go_wp2_with fail
    (with_reducible refine (HI1.out _ HF2.out).mono ?_)
    rintro e u2 ⟨rfl, hf2, hb2⟩
    have HF20 := Lib.hid hf2
    have HT2 := Lib.hid (Own.step hb2 HTB.out)
    clear r0 r2 r3 hf2 hb2
    obtain ⟨r0, r2, r3⟩ := HF20.out.door
    go_wp2_with fail
    (with_reducible refine (HI2.out _ HF20.out).mono ?_)
    rintro e u3 ⟨rfl, hf3, hb3⟩
    have HF30 := Lib.hid hf3
    have HT3 := Lib.hid (Own.step hb3 HT2.out)
    clear r0 r2 r3 hf3 hb3
    obtain ⟨r0, r2, r3⟩ := HF30.out.door
    go_wp2_with fail
    (with_reducible refine (HNX.out _ HF30.out).mono ?_)
    rintro e u4 ⟨v4, rfl, hf4, hO4⟩
    have HF40 := Lib.hid hf4
    have HT4 := Lib.hid (hO4.own HT3.out HT3.out.lt (by simpa using htb))
    clear r0 r2 r3 hf4 hO4
    obtain ⟨r0, r2, r3⟩ := HF40.out.door
    go_wp2_with fail
    (with_reducible refine (HREC.out _ HF40.out).mono ?_)
    rintro e u5 ⟨rfl, hd5⟩
    have HD := Lib.hid hd5
    clear hd5
    go_wp2_with fail
    exact F_doorBad HD.out
  | ok v a1 n1 =>
    rw [hr] at HREC
    dsimp only
    have h6 := hE.2 v a1 n1 hr
    have h6' : a + 1 + 1 ≤ a1 ∧ a1 < Ts.length := h6
    by_cases h41 : pk Ts a1 = [41]
    · rw [if_pos h41]
      have HND : Hid (∀ wx {NA' : Option Addr} {nc' : Nat}, FSt w B base TA tc Ts AA ac as_ X NA d wx a1 NA' nc' n1 → Calls Tryz.prog 49 #[.pointer (some ⟨B, 0, none⟩), .string ⟨#[41]⟩] wx fun e w' => e = .returned (.tuple #[]) ∧ FSt w B base TA tc Ts AA ac as_ X NA d w' (a1 + 1) NA' nc' n1) := Lib.hid (fun wx NA' nc' q => by have := I_need [41] wx q.1 h6'.2 hlen (by simp); rw [show decide (pk Ts a1 = [41]) = true by simp [h41]] at this; exact this.mono (fun e w' r => ⟨r.2.1, q.next r.2.2 r.1⟩))
      clear h1 h2 ih hn hE hr h6 h41
      generalize kd Ts a = kk at *
      generalize tx Ts a = xx at *
      generalize nm Ts a = nn at *
      generalize of_ Ts a = oo at *
      go_enter_defers Tryz.func102, Tryz.ntmps102
      go_wp2_with fail
      clear hu
      (with_reducible refine HN.out.mono ?_)
      rintro e u1 ⟨rfl, hb1⟩
      have HF2 : Hid (FSt w B base TA tc Ts AA ac as_ X NA d (u1.alloc (.cells #[.int .i64 kk, str xx, .int .i64 nn, .int .i64 oo] 74)) a NA nc ns) := Lib.hid ((HF1.out.step hb1).alloc _)
      have HTB : Hid (Own (u1.alloc (.cells #[.int .i64 kk, str xx, .int .i64 nn, .int .i64 oo] 74)) u1.heap.size 74 [.int .i64 kk, str xx, .int .i64 nn, .int .i64 oo]) := Lib.hid (Own.new u1 74 #[_, _, _, _])
      have hz1 := hb1.size
      have HF2' := Lib.hid (HF1.out.step hb1)
      obtain ⟨r0, r2, r3⟩ := HF2'.out.door
      have hzw : w.heap.size < u1.heap.size := by omega
      have htb : ¬ u1.heap.size = B := by omega
      clear hb1 q0 q2 q3
      go_wp2_with fail
      (with_reducible refine (HI1.out _ HF2.out).mono ?_)
      rintro e u2 ⟨rfl, hf2, hb2⟩
      have HF20 := Lib.hid hf2
      have HT2 := Lib.hid (Own.step hb2 HTB.out)
      clear r0 r2 r3 hf2 hb2
      obtain ⟨r0, r2, r3⟩ := HF20.out.door
      go_wp2_with fail
      (with_reducible refine (HI2.out _ HF20.out).mono ?_)
      rintro e u3 ⟨rfl, hf3, hb3⟩
      have HF30 := Lib.hid hf3
      have HT3 := Lib.hid (Own.step hb3 HT2.out)
      clear r0 r2 r3 hf3 hb3
      obtain ⟨r0, r2, r3⟩ := HF30.out.door
      go_wp2_with fail
      (with_reducible refine (HNX.out _ HF30.out).mono ?_)
      rintro e u4 ⟨v4, rfl, hf4, hO4⟩
      have HF40 := Lib.hid hf4
      have HT4 := Lib.hid (hO4.own HT3.out HT3.out.lt (by simpa using htb))
      clear r0 r2 r3 hf4 hO4
      obtain ⟨r0, r2, r3⟩ := HF40.out.door
      go_wp2_with fail
      (with_reducible refine (HREC.out _ HF40.out).mono ?_)
      rintro e u5 ⟨NA5, nc5, rfl, hf5⟩
      have HF50 := Lib.hid hf5
      clear r0 r2 r3 hf5
      obtain ⟨r0, r2, r3⟩ := HF50.out.door
      go_wp2_with fail
      (with_reducible refine (HND.out _ HF50.out).mono ?_)
      rintro e u6 ⟨rfl, hf6⟩
      have HF9 := Lib.hid hf6
      clear hf6
      go_wp2_with fail
      refine F_doorOk ?_ hd2 HF9.out
      simp [results, Tryz.results102, go_sem]
    · rw [if_neg h41]
      have HND : Hid (∀ wx {NA' : Option Addr} {nc' : Nat}, FSt w B base TA tc Ts AA ac as_ X NA d wx a1 NA' nc' n1 → Calls Tryz.prog 49 #[.pointer (some ⟨B, 0, none⟩), .string ⟨#[41]⟩] wx fun e w' => e = .panicked (rej (of_ Ts a1)) ∧ FD w B NA w') := Lib.hid (fun wx NA' nc' q => by have := I_need [41] wx q.1 h6'.2 hlen (by simp); rw [show decide (pk Ts a1 = [41]) = false by simp [h41]] at this; exact this.mono (fun e w' r => ⟨r.2.1, q.bad hB r.2.2 (r.1.mono' (fun x hx => by simp at hx; simp [hx]))⟩))
      clear h1 h2 ih hn hE hr h6 h41
      generalize of_ Ts a1 = off at *
      generalize kd Ts a = kk at *
      generalize tx Ts a = xx at *
      generalize nm Ts a = nn at *
      generalize of_ Ts a = oo at *
      go_enter_defers Tryz.func102, Tryz.ntmps102
      go_wp2_with fail
      clear hu
      (with_reducible refine HN.out.mono ?_)
      rintro e u1 ⟨rfl, hb1⟩
      have HF2 : Hid (FSt w B base TA tc Ts AA ac as_ X NA d (u1.alloc (.cells #[.int .i64 kk, str xx, .int .i64 nn, .int .i64 oo] 74)) a NA nc ns) := Lib.hid ((HF1.out.step hb1).alloc _)
      have HTB : Hid (Own (u1.alloc (.cells #[.int .i64 kk, str xx, .int .i64 nn, .int .i64 oo] 74)) u1.heap.size 74 [.int .i64 kk, str xx, .int .i64 nn, .int .i64 oo]) := Lib.hid (Own.new u1 74 #[_, _, _, _])
      have hz1 := hb1.size
      have HF2' := Lib.hid (HF1.out.step hb1)
      obtain ⟨r0, r2, r3⟩ := HF2'.out.door
      have hzw : w.heap.size < u1.heap.size := by omega
      have htb : ¬ u1.heap.size = B := by omega
      clear hb1 q0 q2 q3
      go_wp2_with fail
      (with_reducible refine (HI1.out _ HF2.out).mono ?_)
      rintro e u2 ⟨rfl, hf2, hb2⟩
      have HF20 := Lib.hid hf2
      have HT2 := Lib.hid (Own.step hb2 HTB.out)
      clear r0 r2 r3 hf2 hb2
      obtain ⟨r0, r2, r3⟩ := HF20.out.door
      go_wp2_with fail
      (with_reducible refine (HI2.out _ HF20.out).mono ?_)
      rintro e u3 ⟨rfl, hf3, hb3⟩
      have HF30 := Lib.hid hf3
      have HT3 := Lib.hid (Own.step hb3 HT2.out)
      clear r0 r2 r3 hf3 hb3
      obtain ⟨r0, r2, r3⟩ := HF30.out.door
      go_wp2_with fail
      (with_reducible refine (HNX.out _ HF30.out).mono ?_)
      rintro e u4 ⟨v4, rfl, hf4, hO4⟩
      have HF40 := Lib.hid hf4
      have HT4 := Lib.hid (hO4.own HT3.out HT3.out.lt (by simpa using htb))
      clear r0 r2 r3 hf4 hO4
      obtain ⟨r0, r2, r3⟩ := HF40.out.door
      go_wp2_with fail
      (with_reducible refine (HREC.out _ HF40.out).mono ?_)
      rintro e u5 ⟨NA5, nc5, rfl, hf5⟩
      have HF50 := Lib.hid hf5
      clear r0 r2 r3 hf5
      obtain ⟨r0, r2, r3⟩ := HF50.out.door
      go_wp2_with fail
      (with_reducible refine (HND.out _ HF50.out).mono ?_)
      rintro e u6 ⟨rfl, hd6⟩
      have HD := Lib.hid hd6
      clear hd6
      go_wp2_with fail
      exact F_doorBad HD.out
/-- The program's parser, whole. -/
theorem I_prs {B base : Nat} {TA : Option Addr} {tc : Nat} {Ts : List ETok} {AA : Option Addr} {ac : Nat} {as_ : List EAssign} (hk : TokK Ts) : ∀ n, IPc B base TA tc Ts AA ac as_ n := by
  intro n
  induction n using Nat.strongRecOn with
  | ind n ih =>
    refine ⟨fun add d a X NA nc ns w h ha hd hn => I_bin hk ih add w h ha hd hn, fun d a X NA nc ns w h ha hd hn => ?_, fun name d a X NA nc ns w h ha hd hp hn => I_call hk ih name w h ha hd hp hn⟩
    obtain ⟨k, rfl⟩ : ∃ k, n = k + 1 := ⟨n - 1, by omega⟩
    by_cases h64 : 64 < d + 1
    · exact I_fac0 hk w h ha h64 hd
    by_cases h1 : pk Ts a = [45]
    · exact I_facM hk ih w h ha h64 h1 hn
    by_cases h2 : pk Ts a = [40]
    · exact I_facP hk ih w h ha h64 h2 hn
    by_cases h3 : kd Ts a = 1
    · exact I_facN hk ih w h ha h64 h1 h2 h3 hn
    by_cases h4 : kd Ts a = 2
    · by_cases hq : pk Ts (a + 1) = [40]
      · exact I_facC hk ih w h ha h64 h1 h2 h4 hq hn
      · exact I_facV hk ih w h ha h64 h1 h2 h4 hq hn
    · exact I_facX hk ih w h ha h64 h1 h2 h3 h4 hn
end Go.Proofs.YtnlbojckobgjpaaGreatDoor
