/- The reference's parser: the functions that call each other. -/
import Derived.Test.YtnlbojckobgjpaaGreatDoorParS
import Derived.Deep.LoopGhost
set_option linter.unusedVariables false
set_option linter.unusedSimpArgs false
namespace Go.Proofs.YtnlbojckobgjpaaGreatDoor
open Go.RowKit Go.Lib
set_option maxRecDepth 100000
/-- What is known of the tokens. -/
structure TokK (Ts : List ETok) : Prop where
  ok : TokOk Ts
  off : ∀ i, 0 ≤ of_ Ts i
  len : Ts.length ≤ 1048576
section
variable {w w' w1 : World} {B base : Nat} {TA : Option Addr} {tc : Nat} {Ts : List ETok} {AA : Option Addr} {ac : Nat} {as_ : List EAssign} {X : List Nat} {NA NA1 : Option Addr} {nc : Nat} {ns : List ENode} {a : Nat} {bad : Int} {r : PR} {e : Ending}
theorem SpSt.ownX {Y : List Nat} (h : SpSt w B base TA tc Ts AA ac as_ X a NA nc ns bad) (hb : Below w.heap.size w w') (hY : ∀ y, y ∈ Y → y < w'.heap.size ∧ (y ∈ X ∨ w.heap.size ≤ y)) : SpSt w' B base TA tc Ts AA ac as_ Y a NA nc ns bad := ⟨h.1.step hb, h.2.own hb hY⟩
theorem SpSt.fresh_ (h : SpSt w B base TA tc Ts AA ac as_ X a NA nc ns bad) (o : Obj) : SpSt (w.alloc o) B base TA tc Ts AA ac as_ (gOf (some ⟨w.heap.size, 0, none⟩) ++ X) a NA nc ns bad := h.ownX ((Below.refl _ _).alloc (Nat.le_refl _) _) (fun y hy => by
    simp only [gOf, List.mem_append, List.mem_cons, List.not_mem_nil, or_false] at hy
    rcases hy with rfl | hy
    · exact ⟨by simp, .inr (Nat.le_refl _)⟩
    · exact ⟨by have := (h.2.xlt y hy).1; simp; omega, .inl hy⟩)
theorem PGo.ret (h : PGo B base TA tc Ts AA ac as_ X NA r w e w') : ∃ v : Int, e = .returned (.int .i64 v) := by
  cases r with
  | ok v a ns => obtain ⟨_, _, rfl, _⟩ := h; exact ⟨_, rfl⟩
  | bad o => obtain ⟨_, _, _, _, _, rfl, _⟩ := h; exact ⟨_, rfl⟩
  | out => exact h.elim
theorem PGo.comp (h1 : Only w.heap.size (B :: gOf NA) w w1) (hs : ∀ x, x ∈ gOf NA1 → x ∈ gOf NA ∨ w.heap.size ≤ x) (h : PGo B base TA tc Ts AA ac as_ X NA1 r w1 e w') : PGo B base TA tc Ts AA ac as_ X NA r w e w' := by
  have hsub : ∀ x, x ∈ B :: gOf NA1 → x ∈ B :: gOf NA ∨ w.heap.size ≤ x := fun x hx => by
    rcases List.mem_cons.1 hx with rfl | hx
    · exact .inl (by simp)
    · exact (hs x hx).imp (fun q => List.mem_cons_of_mem _ q) id
  cases r with
  | ok v a ns =>
    obtain ⟨NA', nc', rfl, h2, h3, h4⟩ := h
    refine ⟨NA', nc', rfl, h2, h1.sub h3 h1.size hsub, fun x hx => ?_⟩
    rcases h4 x hx with q | q
    · exact hs x q
    · exact .inr (Nat.le_trans h1.size q)
  | bad o =>
    obtain ⟨r, c0, c1, c2, c3, rfl, h2, h3, h4⟩ := h
    exact ⟨r, c0, c1, c2, c3, rfl, h2, h3, h1.sub h4 h1.size hsub⟩
  | out => exact h.elim
theorem PGo.after {w0 w2 : World} {NA0 NA2 : Option Addr} (h0 : Only w0.heap.size (B :: gOf NA0) w0 w) (hs : ∀ x, x ∈ gOf NA → x ∈ gOf NA0 ∨ w0.heap.size ≤ x) (h1 : Only w.heap.size (B :: gOf NA) w w2) (hs1 : ∀ x, x ∈ gOf NA2 → x ∈ gOf NA ∨ w.heap.size ≤ x) (o : Obj) :
    Only w0.heap.size (B :: gOf NA0) w0 (w2.alloc o) ∧ (∀ x, x ∈ gOf NA2 → x ∈ gOf NA0 ∨ w0.heap.size ≤ x) := by
  have h2 : Only w0.heap.size (B :: gOf NA0) w0 w2 := h0.sub h1 h0.size (fun x hx => by
    rcases List.mem_cons.1 hx with rfl | hx
    · exact .inl (by simp)
    · exact (hs x hx).imp (fun q => List.mem_cons_of_mem _ q) id)
  refine ⟨h2.al h2.size o, fun x hx => ?_⟩
  rcases hs1 x hx with q | q
  · exact hs x q
  · exact .inr (Nat.le_trans h0.size q)
theorem PGo.nonneg {o : Int} (h : PGo B base TA tc Ts AA ac as_ X NA (.bad o) w e w') : 0 ≤ o := by
  obtain ⟨_, _, _, _, _, _, _, h3, _⟩ := h; exact h3
end
/-- The three functions, with this much fuel. -/
structure SPc (B base : Nat) (TA : Option Addr) (tc : Nat) (Ts : List ETok) (AA : Option Addr) (ac : Nat) (as_ : List EAssign) (n : Nat) : Prop where
  bin : ∀ (add : Bool) (d a : Nat) (X : List Nat) (NA : Option Addr) (nc : Nat) (ns : List ENode) (w : World), SpSt w B base TA tc Ts AA ac as_ X a NA nc ns (-1) → a < Ts.length → d ≤ 65 → mu (.bin add) + 4 * (Ts.length - a) ≤ n →
    Calls Tryz.prog 60 #[.pointer (some ⟨B, 0, none⟩), .int .i64 d, .bool add] w (PGo B base TA tc Ts AA ac as_ X NA (prs Ts n (.bin add) d a ns) w)
  fac : ∀ (d a : Nat) (X : List Nat) (NA : Option Addr) (nc : Nat) (ns : List ENode) (w : World), SpSt w B base TA tc Ts AA ac as_ X a NA nc ns (-1) → a < Ts.length → d ≤ 65 → 1 + 4 * (Ts.length - a) ≤ n →
    Calls Tryz.prog 105 #[.pointer (some ⟨B, 0, none⟩), .int .i64 d] w (PGo B base TA tc Ts AA ac as_ X NA (prs Ts n .fac d a ns) w)
  cal : ∀ (name : List UInt8) (d a : Nat) (X : List Nat) (NA : Option Addr) (nc : Nat) (ns : List ENode) (w : World), SpSt w B base TA tc Ts AA ac as_ X a NA nc ns (-1) → a < Ts.length → d ≤ 65 → 4 + 4 * (Ts.length - a) ≤ n →
    Calls Tryz.prog 114 #[.pointer (some ⟨B, 0, none⟩), str name, .int .i64 d] w (PGo B base TA tc Ts AA ac as_ X NA (prs Ts n (.args name []) d a ns) w)
set_option maxHeartbeats 1000000 in
theorem S_l13Operand {B base : Nat} {TA : Option Addr} {tc : Nat} {Ts : List ETok} {AA : Option Addr} {ac : Nat} {as_ : List EAssign} {n : Nat} (ih : SPc B base TA tc Ts AA ac as_ n) (add : Bool) {d a : Nat} {X : List Nat} {NA : Option Addr} {nc : Nat} {ns : List ENode} (w : World)
    (h : SpSt w B base TA tc Ts AA ac as_ X a NA nc ns (-1)) (ha : a < Ts.length) (hd : d ≤ 65) (hn : mu (opd add) + 4 * (Ts.length - a) ≤ n) :
    Calls Tryz.prog 87 #[.pointer (some ⟨B, 0, none⟩), .int .i64 d, .bool add] w (PGo B base TA tc Ts AA ac as_ X NA (prs Ts n (opd add) d a ns) w) := by
  cases add with
  | true =>
    have HC := Lib.hid (ih.bin false d a X NA nc ns w h ha hd hn)
    clear h ih hn
    show Calls Tryz.prog 87 _ w (PGo B base TA tc Ts AA ac as_ X NA (prs Ts n (.bin false) d a ns) w)
    generalize prs Ts n (.bin false) d a ns = r at *
    go_enter Tryz.func87, Tryz.ntmps87
    go_wp2_with (first | (go_at_call 60; refine HC.out.mono ?_; rintro e w1 hg; obtain ⟨v, rfl⟩ := hg.ret; have HG := Lib.hid hg; clear hg) | fail)
    go_ret
    exact HG.out
  | false =>
    have HC := Lib.hid (ih.fac d a X NA nc ns w h ha hd hn)
    clear h ih hn
    show Calls Tryz.prog 87 _ w (PGo B base TA tc Ts AA ac as_ X NA (prs Ts n .fac d a ns) w)
    generalize prs Ts n .fac d a ns = r at *
    go_enter Tryz.func87, Tryz.ntmps87
    go_wp2_with (first | (go_at_call 105; refine HC.out.mono ?_; rintro e w1 hg; obtain ⟨v, rfl⟩ := hg.ret; have HG := Lib.hid hg; clear hg) | fail)
    go_ret
    exact HG.out
set_option maxHeartbeats 1000000 in
theorem S_l13Expression {B base : Nat} {TA : Option Addr} {tc : Nat} {Ts : List ETok} {AA : Option Addr} {ac : Nat} {as_ : List EAssign} {n : Nat} (ih : SPc B base TA tc Ts AA ac as_ n) {d a : Nat} {X : List Nat} {NA : Option Addr} {nc : Nat} {ns : List ENode} (w : World)
    (h : SpSt w B base TA tc Ts AA ac as_ X a NA nc ns (-1)) (ha : a < Ts.length) (hd : d ≤ 65) (hn : 3 + 4 * (Ts.length - a) ≤ n) :
    Calls Tryz.prog 30 #[.pointer (some ⟨B, 0, none⟩), .int .i64 d] w (PGo B base TA tc Ts AA ac as_ X NA (prs Ts n (.bin true) d a ns) w) := by
  have HC := Lib.hid (ih.bin true d a X NA nc ns w h ha hd hn)
  clear h ih hn
  generalize prs Ts n (.bin true) d a ns = r at *
  go_enter Tryz.func30, Tryz.ntmps30
  go_wp2_with (first | (go_at_call 60; refine HC.out.mono ?_; rintro e w1 hg; obtain ⟨v, rfl⟩ := hg.ret; have HG := Lib.hid hg; clear hg) | fail)
  go_ret
  exact HG.out
/-- What l13Binary's loop keeps. -/
def BinInv (B base : Nat) (TA : Option Addr) (tc : Nat) (Ts : List ETok) (AA : Option Addr) (ac : Nat) (as_ : List EAssign) (X : List Nat) (NA : Option Addr) (n d : Nat) (add : Bool) (R : PR) (w : World) (k : Nat) (v : Int) (wr : World) : Prop :=
  (∃ (a1 : Nat) (NA1 : Option Addr) (nc1 : Nat) (n1 : List ENode) (f : Nat), SpSt wr B base TA tc Ts AA ac as_ X a1 NA1 nc1 n1 (-1) ∧ a1 < Ts.length ∧ 4 + 4 * (Ts.length - a1) ≤ f ∧ f ≤ n ∧ f ≤ k ∧ prs Ts f (.loop add v) d a1 n1 = R ∧ Only w.heap.size (B :: gOf NA) w wr ∧ (∀ x, x ∈ gOf NA1 → x ∈ gOf NA ∨ w.heap.size ≤ x)) ∨
  (∃ (o : Int) (c0 c1 c2 c3 : Value), R = .bad o ∧ 0 ≤ o ∧ Own wr B 77 [c0, c1, c2, c3, .int .i64 o] ∧ Only w.heap.size (B :: gOf NA) w wr)
theorem prs_loop0 {T : List ETok} {n : Nat} {add : Bool} {v : Int} {d a : Nat} {ns : List ENode} (h : opS add (pk T a) = 0) : prs T (n + 1) (.loop add v) d a ns = .ok v a ns := by rw [prs, if_pos h]
theorem prs_loop1 {T : List ETok} {n : Nat} {add : Bool} {v b : Int} {d a a1 : Nat} {ns n1 : List ENode} (h : opS add (pk T a) ≠ 0) (hr : prs T n (opd add) d (a + 1) ns = .ok b a1 n1) :
    prs T (n + 1) (.loop add v) d a ns = match emit T (opS add (pk T a), [], 0, [v, b]) a1 n1 with | .ok u a2 n2 => prs T n (.loop add u) d a2 n2 | .bad o => .bad o | .out => .out := by rw [prs, if_neg h, hr]; rfl
theorem prs_loop2 {T : List ETok} {n : Nat} {add : Bool} {v o : Int} {d a : Nat} {ns : List ENode} (h : opS add (pk T a) ≠ 0) (hr : prs T n (opd add) d (a + 1) ns = .bad o) : prs T (n + 1) (.loop add v) d a ns = .bad o := by rw [prs, if_neg h, hr]
theorem prs_bin1 {T : List ETok} {n : Nat} {add : Bool} {v : Int} {d a a1 : Nat} {ns n1 : List ENode} (hr : prs T n (opd add) d a ns = .ok v a1 n1) : prs T (n + 1) (.bin add) d a ns = prs T n (.loop add v) d a1 n1 := by rw [prs, hr]
theorem prs_bin2 {T : List ETok} {n : Nat} {add : Bool} {o : Int} {d a : Nat} {ns : List ENode} (hr : prs T n (opd add) d a ns = .bad o) : prs T (n + 1) (.bin add) d a ns = .bad o := by rw [prs, hr]
theorem mu_opd (add : Bool) : mu (opd add) + 1 = mu (.bin add) ∧ mu (opd add) ≤ 2 ∧ 1 ≤ mu (opd add) := by cases add <;> exact ⟨rfl, by decide, by decide⟩
theorem st_opd (add : Bool) : st (opd add) = 1 := by cases add <;> rfl
set_option maxHeartbeats 8000000 in
theorem S_l13Binary {B base : Nat} {TA : Option Addr} {tc : Nat} {Ts : List ETok} {AA : Option Addr} {ac : Nat} {as_ : List EAssign} {n : Nat} (hk : TokK Ts) (ih : ∀ m, m < n → SPc B base TA tc Ts AA ac as_ m) (add : Bool) {d a : Nat} {X : List Nat} {NA : Option Addr} {nc : Nat} {ns : List ENode} (w : World)
    (h : SpSt w B base TA tc Ts AA ac as_ X a NA nc ns (-1)) (ha : a < Ts.length) (hd : d ≤ 65) (hn : mu (.bin add) + 4 * (Ts.length - a) ≤ n) :
    Calls Tryz.prog 60 #[.pointer (some ⟨B, 0, none⟩), .int .i64 d, .bool add] w (PGo B base TA tc Ts AA ac as_ X NA (prs Ts n (.bin add) d a ns) w) := by
  obtain ⟨h1, h2, h3⟩ := mu_opd add
  obtain ⟨k, rfl⟩ : ∃ k, n = k + 1 := ⟨n - 1, by omega⟩
  have HOP : Hid (∀ f, f ≤ k → ∀ (a : Nat) (NA : Option Addr) (nc : Nat) (ns : List ENode) (wx : World), SpSt wx B base TA tc Ts AA ac as_ X a NA nc ns (-1) → a < Ts.length → mu (opd add) + 4 * (Ts.length - a) ≤ f →
      Calls Tryz.prog 87 #[.pointer (some ⟨B, 0, none⟩), .int .i64 d, .bool add] wx (PGo B base TA tc Ts AA ac as_ X NA (prs Ts f (opd add) d a ns) wx)) := Lib.hid (fun f hf a NA nc ns wx hx hax hnx => S_l13Operand (ih f (by omega)) add wx hx hax hd hnx)
  have hE := prs_ends hk.ok k (opd add) d a ns ha (by omega)
  have HIN : Hid (∀ x, x ∈ gOf NA → x ∈ gOf NA ∨ w.heap.size ≤ x) := Lib.hid (fun x hx => .inl hx)
  have HC := HOP.out k (Nat.le_refl _) a NA nc ns w h ha (by omega)
  obtain ⟨R, hR⟩ : ∃ R, prs Ts (k + 1) (.bin add) d a ns = R := ⟨_, rfl⟩
  -- behind the first operand
  have HST : Hid (∀ e w1, PGo B base TA tc Ts AA ac as_ X NA (prs Ts k (opd add) d a ns) w e w1 → ∃ v : Int, e = .returned (.int .i64 v) ∧ BinInv B base TA tc Ts AA ac as_ X NA k d add R w k v w1) := Lib.hid (fun e w1 hg => by
    cases hr : prs Ts k (opd add) d a ns with
    | out => exact absurd hr hE.1
    | bad o =>
      rw [hr] at hg
      obtain ⟨r, c0, c1, c2, c3, rfl, q1, q2, q3⟩ := hg
      exact ⟨r, rfl, .inr ⟨o, c0, c1, c2, c3, by rw [← hR, prs_bin2 hr], q2, q1, q3⟩⟩
    | ok v a1 n1 =>
      rw [hr] at hg
      obtain ⟨NA', nc', rfl, q1, q2, q3⟩ := hg
      have h5 := hE.2 v a1 n1 hr
      rw [st_opd] at h5
      exact ⟨v, rfl, .inl ⟨a1, NA', nc', n1, k, q1, h5.2, by omega, Nat.le_refl _, Nat.le_refl _, by rw [← hR, prs_bin1 hr], q2, q3⟩⟩)
  rw [hR]
  generalize prs Ts k (opd add) d a ns = r0 at *
  clear hE h hn hR
  go_enter Tryz.func60, Tryz.ntmps60
  go_wp2_with (first | (go_at_call 87; refine HC.mono ?_; rintro e w1 hg; obtain ⟨v, rfl, hv⟩ := HST.out _ _ hg; have HV := Lib.hid hv; clear hg hv HC) | fail)
  go_loopg [7, 8, 9] k (fun g p _ _ wr => ∃ v : Int, p = .int .i64 v ∧ BinInv B base TA tc Ts AA ac as_ X NA k d add R w g v wr)
  case atStart => exact ⟨v, rfl, HV.out⟩
  case round =>
    obtain ⟨v', rfl, hinv⟩ := hrel
    obtain ⟨wo, rfl⟩ : ∃ wo, wo = wr := ⟨_, rfl⟩
    clear HV
    rcases hinv with ⟨a1, NA1, nc1, n1, f, hst, ha1, hf1, hf2, hf3, hR, hO, hS⟩ | ⟨o, c0, c1, c2, c3, rfl, ho, hw, hO⟩
    · obtain ⟨f', rfl⟩ : ∃ f', f = f' + 1 := ⟨f - 1, by omega⟩
      have HPK := Lib.hid (S_l13Peek wo hst ha1)
      obtain ⟨hB, _, c1, _, _, c4, cf⟩ := hst.cells
      have HS := Lib.hid hst
      have HO := Lib.hid hO
      have HSb := Lib.hid hS
      have hOz := hO.size
      obtain ⟨q, hq⟩ : ∃ q, opS add (pk Ts a1) = q := ⟨_, rfl⟩
      have HOPc : Hid (∀ wx, Calls Tryz.prog 88 #[str (pk Ts a1), .bool add] wx fun e w' => e = .returned (.int .i64 q) ∧ wx = w') := Lib.hid (fun wx => by have := S_l13Op (pk Ts a1) add wx; rw [hq] at this; exact this)
      have hin := fun (h0 : q ≠ 0) => pk_in hk.ok ha1 (opS_ne (add := add) (x := pk Ts a1) (by rw [hq]; exact h0))
      clear hst hO hS
      by_cases hq0 : q = 0
      · rw [prs_loop0 (by rw [hq, hq0])] at hR
        subst hR
        subst hq0
        clear hq hin
        generalize pk Ts a1 = y at *
        go_wp2_with (first | (go_at_call 59; refine HPK.out.mono ?_; rintro e w1 ⟨rfl, hb1⟩; have HS1 := Lib.hid (HS.out.step hb1); have HO1 : Hid (Only w.heap.size (B :: gOf NA) w w1) := Lib.hid (HO.out.sub (Only.of_below hb1 []) hOz (fun x hx => by cases hx)); clear hb1) | (go_at_call 88; refine (HOPc.out _).mono ?_; rintro e w' ⟨rfl, rfl⟩) | fail)
        go_ret
        exact ⟨NA1, nc1, rfl, HS1.out, HO1.out, HSb.out⟩
      · have hin1 := hin hq0
        have hq0' : (q == 0) = false := by simpa using hq0
        have hE := prs_ends hk.ok f' (opd add) d (a1 + 1) n1 hin1 (by omega)
        have HOPR : Hid (∀ wx, SpSt wx B base TA tc Ts AA ac as_ X (a1 + 1) NA1 nc1 n1 (-1) → Calls Tryz.prog 87 #[.pointer (some ⟨B, 0, none⟩), .int .i64 d, .bool add] wx (PGo B base TA tc Ts AA ac as_ X NA1 (prs Ts f' (opd add) d (a1 + 1) n1) wx)) := Lib.hid (fun wx hx => HOP.out f' (by omega) (a1 + 1) NA1 nc1 n1 wx hx hin1 (by omega))
        have ha1s := hk.len
        cases hr : prs Ts f' (opd add) d (a1 + 1) n1 with
        | out => exact absurd hr hE.1
        | bad o =>
          rw [prs_loop2 (by rw [hq]; exact hq0) hr] at hR
          subst hR
          rw [hr] at HOPR
          clear hr hE hq hin hq0
          generalize pk Ts a1 = y at *
          go_wp2_with (first | (go_at_call 59; refine HPK.out.mono ?_; rintro e w1 ⟨rfl, hb1⟩; have HS1 := Lib.hid (HS.out.step hb1); have HO1 : Hid (Only w.heap.size (B :: gOf NA) w w1) := Lib.hid (HO.out.sub (Only.of_below hb1 []) hOz (fun x hx => by cases hx)); have d1 := HS1.out.cells.2.2.1; have df := HS1.out.cells.2.2.2.2.2.2; have dB := HS1.out.cells.1; have HSA : Hid (SpSt (w1.setCell ⟨B, 1, none⟩ (.int .i64 ((a1 : Int) + 1))) B base TA tc Ts AA ac as_ X (a1 + 1) NA1 nc1 n1 (-1)) := Lib.hid (by have := HS1.out.setAt (a1 + 1); simpa using this); clear hb1) | (go_at_call 88; refine (HOPc.out _).mono ?_; rintro e w' ⟨rfl, rfl⟩) | (go_at_call 87; refine (HOPR.out _ HSA.out).mono ?_; rintro e w2 ⟨r, b0, b1, b2, b3, rfl, hw2, ho2, hO2⟩; have HW2 := Lib.hid hw2; have HO2 := Lib.hid hO2; have g4 := hw2.cell 4; (try dsimp only [List.getElem?_cons_succ, List.getElem?_cons_zero] at g4); clear hw2 hO2) | fail)
          go_ret
          refine ⟨0, b0, b1, b2, b3, rfl, HW2.out, ho2, ?_⟩
          refine (HO1.out.setCell (p := ⟨B, 1, none⟩) (by simp) _).sub HO2.out (by have := HO1.out.size; simpa using this) (fun x hx => ?_)
          rcases List.mem_cons.1 hx with rfl | hx
          · exact .inl (by simp)
          · exact (HSb.out x hx).imp (fun q => List.mem_cons_of_mem _ q) id
        | ok b a2 n2 =>
          have hR2 := prs_loop1 (v := v') (by rw [hq]; exact hq0) hr
          rw [hR] at hR2
          rw [hr] at HOPR
          have h6 := hE.2 b a2 n2 hr
          rw [st_opd] at h6
          have HEM : Hid (∀ (wx : World) (NA2 : Option Addr) (nc2 : Nat), SpSt wx B base TA tc Ts AA ac as_ X a2 NA2 nc2 n2 (-1) → Calls Tryz.prog 89 #[.pointer (some ⟨B, 0, none⟩), nodeV q [] 0 (.slice (some ⟨wx.heap.size, 0, none⟩) 2 2)] (wx.alloc (.cells #[.int .i64 v', .int .i64 b] 3)) (PGo B base TA tc Ts AA ac as_ X NA2 (emit Ts (q, [], 0, [v', b]) a2 n2) (wx.alloc (.cells #[.int .i64 v', .int .i64 b] 3)))) := Lib.hid (fun wx NA2 nc2 hx =>
            S_l13Emit (args := [v', b]) _ (hx.fresh_ _) (by omega) h6.2 hk.len hk.off (OwnS.some_ (Own.new wx 3 #[.int .i64 v', .int .i64 b]) rfl (by simp)) (fun y hy => by
              obtain rfl : y = wx.heap.size := by simpa [gOf] using hy
              exact fun q => by have := (hx.2.xlt _ q).1; omega))
          have HNX : Hid (∀ (wx : World) (NA2 : Option Addr) (e : Ending) (w3 : World), Only w.heap.size (B :: gOf NA) w wx → (∀ x, x ∈ gOf NA2 → x ∈ gOf NA ∨ w.heap.size ≤ x) → PGo B base TA tc Ts AA ac as_ X NA2 (emit Ts (q, [], 0, [v', b]) a2 n2) wx e w3 → ∃ v : Int, e = .returned (.int .i64 v) ∧ BinInv B base TA tc Ts AA ac as_ X NA k d add R w (gk - 1) v w3) := Lib.hid (fun wx NA2 e w3 hO2 hS2 hg => by
            have hg' := hg.comp hO2 hS2
            cases he : emit Ts (q, [], 0, [v', b]) a2 n2 with
            | out => rw [he] at hg; exact hg.elim
            | bad o =>
              rw [he] at hg'
              obtain ⟨r, c0, c1, c2, c3, rfl, q1, q2, q3⟩ := hg'
              rw [hq, he] at hR2
              exact ⟨r, rfl, .inr ⟨o, c0, c1, c2, c3, hR2, q2, q1, q3⟩⟩
            | ok u a3 n3 =>
              obtain ⟨rfl, _⟩ := emit_at he
              rw [he] at hg'
              obtain ⟨NA', nc', rfl, q1, q2, q3⟩ := hg'
              rw [hq, he] at hR2
              exact ⟨u, rfl, .inl ⟨a3, NA', nc', n3, f', q1, h6.2, by omega, by omega, by omega, hR2.symm, q2, q3⟩⟩)
          clear hr hE hq hin hq0 hR hR2
          generalize emit Ts (q, [], 0, [v', b]) a2 n2 = r2 at *
          generalize pk Ts a1 = y at *
          go_wp2_with (first | (go_at_call 59; refine HPK.out.mono ?_; rintro e w1 ⟨rfl, hb1⟩; have HS1 := Lib.hid (HS.out.step hb1); have HO1 : Hid (Only w.heap.size (B :: gOf NA) w w1) := Lib.hid (HO.out.sub (Only.of_below hb1 []) hOz (fun x hx => by cases hx)); have d1 := HS1.out.cells.2.2.1; have df := HS1.out.cells.2.2.2.2.2.2; have dB := HS1.out.cells.1; have HSA : Hid (SpSt (w1.setCell ⟨B, 1, none⟩ (.int .i64 ((a1 : Int) + 1))) B base TA tc Ts AA ac as_ X (a1 + 1) NA1 nc1 n1 (-1)) := Lib.hid (by have := HS1.out.setAt (a1 + 1); simpa using this); clear hb1) | (go_at_call 88; refine (HOPc.out _).mono ?_; rintro e w' ⟨rfl, rfl⟩) | (go_at_call 87; refine (HOPR.out _ HSA.out).mono ?_; rintro e w2 ⟨NA2, nc2, rfl, hs2, hO2, hS2⟩; have g4 := hs2.cells.2.2.2.2.2.1; have HS2 := Lib.hid hs2; have HOS : Hid (Only w.heap.size (B :: gOf NA) w (w2.alloc (.cells #[.int .i64 v', .int .i64 b] 3)) ∧ (∀ x, x ∈ gOf NA2 → x ∈ gOf NA ∨ w.heap.size ≤ x)) := Lib.hid (PGo.after (HO1.out.setCell (p := ⟨B, 1, none⟩) (by simp) _) HSb.out hO2 hS2 _); clear hs2 hO2 hS2) | (go_at_call 89; refine (HEM.out _ _ _ HS2.out).mono ?_; rintro e w3 hg; obtain ⟨v3, rfl, hv3⟩ := HNX.out _ _ _ _ HOS.out.1 HOS.out.2 hg; have HV3 := Lib.hid hv3; clear hg hv3) | fail)
          go_roundg (gk - 1)
          case measure => omega
          case rel => exact ⟨v3, rfl, HV3.out⟩
    · have g4 : wo.cell? ⟨B, 4, none⟩ = some (.int .i64 o) := hw.cell 4
      have HW := Lib.hid hw
      have HO := Lib.hid hO
      have ho' : ¬ o < 0 := by omega
      clear hw hO
      go_wp2_with fail
      go_ret
      exact ⟨v', c0, c1, c2, c3, rfl, HW.out, ho, HO.out⟩
section
variable {w w' : World} {B base : Nat} {TA : Option Addr} {tc : Nat} {Ts : List ETok} {AA : Option Addr} {ac : Nat} {as_ : List EAssign} {X : List Nat} {NA NA1 : Option Addr} {nc : Nat} {ns : List ENode} {a : Nat} {bad : Int}
theorem SpSt.app {e : TypeId} {size n n' c' base' : Nat} {xs : List Value} {PA PA' : Option Addr} (h : SpSt w B base TA tc Ts AA ac as_ (gOf PA ++ X) a NA nc ns bad) (ap : Appended w base' e size PA n xs PA' n' c' w') : SpSt w' B base TA tc Ts AA ac as_ (gOf PA' ++ X) a NA nc ns bad :=
  ⟨(ap.2.2.1.block B h.1.lt (by have := h.2.xlt B; cases PA <;> simp_all [gOf])).trans h.1, h.2.app ap⟩
theorem SpSt.drop_ {Z : List Nat} (h : SpSt w B base TA tc Ts AA ac as_ (Z ++ X) a NA nc ns bad) : SpSt w B base TA tc Ts AA ac as_ X a NA nc ns bad := h.ownX (Below.refl _ _) (fun y hy => ⟨(h.2.xlt y (by simp [hy])).1, .inl (by simp [hy])⟩)
theorem SpSt.apart {Z : List Nat} (h : SpSt w B base TA tc Ts AA ac as_ (Z ++ X) a NA nc ns bad) {y : Nat} (hy : y ∈ Z) (hX : y ∉ X) : y ∉ B :: (gOf NA ++ gOf AA ++ X) := by
  simp only [List.mem_cons, List.mem_append, not_or]
  exact ⟨(h.2.xlt y (by simp [hy])).2, ⟨fun q => (h.2.apN y q).2.2 (by simp [hy]), fun q => (h.2.apA y q).2 (by simp [hy])⟩, hX⟩
theorem Only.app {w0 : World} {G : List Nat} {e : TypeId} {size n n' c' base' : Nat} {xs : List Value} {PA PA' : Option Addr} (h : Only w0.heap.size G w0 w) (ap : Appended w base' e size PA n xs PA' n' c' w') (hP : ∀ x, x ∈ gOf PA → w0.heap.size ≤ x) : Only w0.heap.size G w0 w' :=
  ⟨ap.2.1.os.trans h.os, ap.2.1.tape.trans h.tape, ap.2.1.output.trans h.output, Nat.le_trans h.size ap.2.2.2.1, fun y hy hG => (ap.2.2.1.block y (Nat.lt_of_lt_of_le hy h.size) (by cases PA with | none => simp | some ad => (have := hP ad.block (by simp [gOf]); simp; omega))).trans (h.block y hy hG)⟩
theorem RS.nil_ (w : World) (size : Nat) (A : Option Addr) (c : Nat) (hc : c ≤ maxLen) : RS w size A 0 c [] := ⟨by simp, A, c, rfl, Nat.zero_le _, hc, fun h => absurd h (by omega)⟩
end
/-- What l13Call's loop keeps. -/
def CallInv (B base : Nat) (TA : Option Addr) (tc : Nat) (Ts : List ETok) (AA : Option Addr) (ac : Nat) (as_ : List EAssign) (X : List Nat) (NA : Option Addr) (n d : Nat) (name : List UInt8) (R : PR) (w : World) (k : Nat) (l : List Int) (PA : Option Addr) (pc : Nat) (wr : World) : Prop :=
  ∃ (a1 : Nat) (NA1 : Option Addr) (nc1 : Nat) (n1 : List ENode) (f : Nat), SpSt wr B base TA tc Ts AA ac as_ (gOf PA ++ X) a1 NA1 nc1 n1 (-1) ∧ a1 < Ts.length ∧ 4 + 4 * (Ts.length - a1) ≤ f ∧ f ≤ n ∧ f ≤ k ∧ prs Ts f (.args name l) d a1 n1 = R ∧ ¬ (l = [] ∧ pk Ts a1 = [41]) ∧ l.length ≤ 3 ∧
    Grow wr w.heap.size 3 1 PA l.length pc (ints l) ∧ Only w.heap.size (B :: gOf NA) w wr ∧ (∀ x, x ∈ gOf NA1 → x ∈ gOf NA ∨ w.heap.size ≤ x)
theorem prs_args0 {T : List ETok} {n : Nat} {name : List UInt8} {d a : Nat} {ns : List ENode} (h : pk T a = [41]) : prs T (n + 1) (.args name []) d a ns = emit T (8, name, 0, []) (a + 1) ns := by rw [prs, if_pos ⟨rfl, h⟩]
theorem prs_args3 {T : List ETok} {n : Nat} {name : List UInt8} {l : List Int} {d a : Nat} {ns : List ENode} (h : ¬ (l = [] ∧ pk T a = [41])) (hl : l.length = 3) : prs T (n + 1) (.args name l) d a ns = .bad (of_ T a) := by rw [prs, if_neg h, if_pos hl]
theorem prs_argsB {T : List ETok} {n : Nat} {name : List UInt8} {l : List Int} {d a : Nat} {ns : List ENode} {o : Int} (h : ¬ (l = [] ∧ pk T a = [41])) (hl : l.length ≠ 3) (hr : prs T n (.bin true) d a ns = .bad o) : prs T (n + 1) (.args name l) d a ns = .bad o := by rw [prs, if_neg h, if_neg hl, hr]
theorem prs_argsN {T : List ETok} {n : Nat} {name : List UInt8} {l : List Int} {d a a1 : Nat} {ns n1 : List ENode} {v : Int} (h : ¬ (l = [] ∧ pk T a = [41])) (hl : l.length ≠ 3) (hr : prs T n (.bin true) d a ns = .ok v a1 n1) (hp : pk T a1 = [44]) : prs T (n + 1) (.args name l) d a ns = prs T n (.args name (l ++ [v])) d (a1 + 1) n1 := by rw [prs, if_neg h, if_neg hl, hr]; simp only [hp, if_true]
theorem prs_argsE {T : List ETok} {n : Nat} {name : List UInt8} {l : List Int} {d a a1 : Nat} {ns n1 : List ENode} {v : Int} (h : ¬ (l = [] ∧ pk T a = [41])) (hl : l.length ≠ 3) (hr : prs T n (.bin true) d a ns = .ok v a1 n1) (hp : pk T a1 ≠ [44]) (hq : pk T a1 = [41]) : prs T (n + 1) (.args name l) d a ns = emit T (8, name, 0, l ++ [v]) (a1 + 1) n1 := by rw [prs, if_neg h, if_neg hl, hr]; simp only [if_neg hp, if_pos hq]
theorem prs_argsX {T : List ETok} {n : Nat} {name : List UInt8} {l : List Int} {d a a1 : Nat} {ns n1 : List ENode} {v : Int} (h : ¬ (l = [] ∧ pk T a = [41])) (hl : l.length ≠ 3) (hr : prs T n (.bin true) d a ns = .ok v a1 n1) (hp : pk T a1 ≠ [44]) (hq : pk T a1 ≠ [41]) : prs T (n + 1) (.args name l) d a ns = .bad (of_ T a1) := by rw [prs, if_neg h, if_neg hl, hr]; simp only [if_neg hp, if_neg hq]
set_option maxHeartbeats 16000000 in
theorem S_l13Call {B base : Nat} {TA : Option Addr} {tc : Nat} {Ts : List ETok} {AA : Option Addr} {ac : Nat} {as_ : List EAssign} {n : Nat} (hk : TokK Ts) (ih : ∀ m, m < n → SPc B base TA tc Ts AA ac as_ m) (name : List UInt8) {d a : Nat} {X : List Nat} {NA : Option Addr} {nc : Nat} {ns : List ENode} (w : World)
    (h : SpSt w B base TA tc Ts AA ac as_ X a NA nc ns (-1)) (ha : a < Ts.length) (hd : d ≤ 65) (hn : 4 + 4 * (Ts.length - a) ≤ n) :
    Calls Tryz.prog 114 #[.pointer (some ⟨B, 0, none⟩), str name, .int .i64 d] w (PGo B base TA tc Ts AA ac as_ X NA (prs Ts n (.args name []) d a ns) w) := by
  have hlen := hk.len
  have hX0 := fun x hx => (h.2.xlt x hx).1
  -- the closing: ")" is there, the node is put
  have HXP : Hid (∀ (wx : World) (a1 : Nat) (NA1 : Option Addr) (nc1 : Nat) (n1 : List ENode) (Y : List Nat), SpSt wx B base TA tc Ts AA ac as_ Y a1 NA1 nc1 n1 (-1) → a1 < Ts.length → Calls Tryz.prog 29 #[.pointer (some ⟨B, 0, none⟩), .string ⟨#[41]⟩] wx (PExp B base TA tc Ts AA ac as_ Y a1 NA1 nc1 n1 (decide (pk Ts a1 = [41])) wx)) := Lib.hid (fun wx a1 NA1 nc1 n1 Y hx h1 => S_l13Expect [41] wx hx h1 hlen)
  have HEM : Hid (∀ (wx : World) (a1 : Nat) (NA1 : Option Addr) (nc1 : Nat) (n1 : List ENode) (l : List Int) (PA : Option Addr) (pc : Nat), SpSt wx B base TA tc Ts AA ac as_ (gOf PA ++ X) (a1 + 1) NA1 nc1 n1 (-1) → a1 + 1 < Ts.length → OwnS wx 1 PA l.length pc 3 (ints l) → (∀ y, y ∈ gOf PA → w.heap.size ≤ y) →
      Calls Tryz.prog 89 #[.pointer (some ⟨B, 0, none⟩), nodeV 8 name 0 (.slice PA l.length pc)] wx (PGo B base TA tc Ts AA ac as_ X NA1 (emit Ts (8, name, 0, l) (a1 + 1) n1) wx)) := Lib.hid (fun wx a1 NA1 nc1 n1 l PA pc hx h1 hr hg => S_l13Emit wx hx (by omega) h1 hlen hk.off hr (fun y hy q => by have := hX0 y q; have := hg y hy; omega))
  obtain ⟨k, rfl⟩ : ∃ k, n = k + 1 := ⟨n - 1, by omega⟩
  have HPK : Hid (∀ (wx : World) (a1 : Nat) (NA1 : Option Addr) (nc1 : Nat) (n1 : List ENode) (Y : List Nat), SpSt wx B base TA tc Ts AA ac as_ Y a1 NA1 nc1 n1 (-1) → a1 < Ts.length → Calls Tryz.prog 59 #[.pointer (some ⟨B, 0, none⟩)] wx fun e w' => e = .returned (str (pk Ts a1)) ∧ Below wx.heap.size wx w') := Lib.hid (fun wx a1 NA1 nc1 n1 Y hx h1 => S_l13Peek wx hx h1)
  have HS := Lib.hid h
  have hB := h.1.lt
  have HSA : Hid (SpSt (w.alloc (.cells #[] 3)) B base TA tc Ts AA ac as_ (gOf (some ⟨w.heap.size, 0, none⟩) ++ X) a NA nc ns (-1)) := Lib.hid (h.ownX ((Below.refl _ _).alloc (Nat.le_refl _) _) (fun y hy => by
    simp only [gOf, List.mem_append, List.mem_cons, List.not_mem_nil, or_false] at hy
    rcases hy with rfl | hy
    · exact ⟨by simp, .inr (Nat.le_refl _)⟩
    · exact ⟨by have := hX0 y hy; simp; omega, .inl hy⟩))
  have HG0 : Hid (Grow (w.alloc (.cells #[] 3)) w.heap.size 3 1 (some ⟨w.heap.size, 0, none⟩) 0 0 (ints [])) := Lib.hid (Grow.lit w #[] 0 rfl (Nat.le_refl _) (Nat.zero_le _))
  clear h
  by_cases hp : pk Ts a = [41]
  · have hin := pk_in hk.ok ha (by rw [hp]; simp)
    have HE := Lib.hid (prs_args0 (n := k) (name := name) (d := d) (ns := ns) hp)
    have HPKa := Lib.hid (HPK.out _ a NA nc ns _ HSA.out ha)
    have HXPa : Hid (∀ (wx : World), SpSt wx B base TA tc Ts AA ac as_ (gOf (some ⟨w.heap.size, 0, none⟩) ++ X) a NA nc ns (-1) → Calls Tryz.prog 29 #[.pointer (some ⟨B, 0, none⟩), .string ⟨#[41]⟩] wx (PExp B base TA tc Ts AA ac as_ (gOf (some ⟨w.heap.size, 0, none⟩) ++ X) a NA nc ns true wx)) := Lib.hid (fun wx hx => by have := HXP.out wx a NA nc ns _ hx ha; rw [hp] at this; exact this)
    have HEMa : Hid (∀ (wx : World), SpSt wx B base TA tc Ts AA ac as_ (gOf (some ⟨w.heap.size, 0, none⟩) ++ X) (a + 1) NA nc ns (-1) → Grow wx w.heap.size 3 1 (some ⟨w.heap.size, 0, none⟩) 0 0 (ints []) → Calls Tryz.prog 89 #[.pointer (some ⟨B, 0, none⟩), nodeV 8 name 0 (.slice (some ⟨w.heap.size, 0, none⟩) 0 0)] wx (PGo B base TA tc Ts AA ac as_ X NA (emit Ts (8, name, 0, []) (a + 1) ns) wx)) := Lib.hid (fun wx hx hg => HEM.out wx a NA nc ns [] _ 0 hx hin hg.ownS hg.ge)
    rw [hp] at HPKa
    rw [HE.out]
    clear HPK HXP HEM hp
    generalize emit Ts (8, name, 0, []) (a + 1) ns = r at *
    go_enter Tryz.func114, Tryz.ntmps114
    go_wp2_with (first | (go_at_call 59; refine HPKa.out.mono ?_; rintro e w1 ⟨rfl, hb1⟩; have HS1 := Lib.hid (HSA.out.step hb1); have HG1 := Lib.hid (HG0.out.step hb1); have HO1 : Hid (Only w.heap.size (B :: gOf NA) w w1) := Lib.hid (Only.of_below (Below.step hb1 (by repeat (first | (with_reducible exact Below.refl _ _) | (with_reducible assumption) | ((with_reducible refine Below.alloc ?_ ?_ _); rotate_left; (first | omega | (simp <;> omega))) | ((with_reducible refine Below.setCell ?_ ?_ _); rotate_left; (first | omega | (simp <;> omega))) | (with_reducible refine below_drewN ?_ _) | (with_reducible refine Below.drew ?_) | ((with_reducible refine Below.step (by assumption) ?_ ?_); rotate_left; (first | omega | (simp <;> omega))))) (by first | omega | (simp <;> omega))) _); clear hb1) | (go_at_call 29; refine (HXPa.out _ HS1.out).mono ?_; rintro e w2 ⟨rfl, hO2, hs2, _⟩; have HS2 := Lib.hid (hs2 rfl); have HG2 := Lib.hid (HG1.out.only hO2 (fun x hx => ⟨HG1.out.lt x hx, fun r => by simp at r; exact (HS1.out.2.xlt x (by simp [hx])).2 r⟩)); have HO2 : Hid (Only w.heap.size (B :: gOf NA) w w2) := Lib.hid (HO1.out.sub hO2 HO1.out.size (fun x hx => .inl (by simp at hx; simp [hx]))); clear hO2 hs2) | (go_at_call 89; refine (HEMa.out _ HS2.out HG2.out).mono ?_; rintro e w3 hg; obtain ⟨v, rfl⟩ := hg.ret; have HG := Lib.hid (hg.comp HO2.out (fun x hx => .inl hx)); clear hg) | fail)
    go_ret
    exact HG.out
  · have hne : (pk Ts a != [41]) = true := by simpa using hp
    have hne2 : (pk Ts a == [41]) = false := by simpa using hp
    have HPKa := Lib.hid (HPK.out _ a NA nc ns _ HSA.out ha)
    obtain ⟨R, hR⟩ : ∃ R, prs Ts (k + 1) (.args name []) d a ns = R := ⟨_, rfl⟩
    have HST : Hid (∀ w1, Below (w.alloc (.cells #[] 3)).heap.size (w.alloc (.cells #[] 3)) w1 → CallInv B base TA tc Ts AA ac as_ X NA (k + 1) d name R w (k + 1) [] (some ⟨w.heap.size, 0, none⟩) 0 w1) := Lib.hid (fun w1 hb1 => ⟨a, NA, nc, ns, k + 1, HSA.out.step hb1, ha, hn, Nat.le_refl _, Nat.le_refl _, hR, fun q => hp q.2, by simp, Grow.step hb1 HG0.out, Only.of_below (Below.step hb1 (by repeat (first | (with_reducible exact Below.refl _ _) | (with_reducible assumption) | ((with_reducible refine Below.alloc ?_ ?_ _); rotate_left; (first | omega | (simp <;> omega))) | ((with_reducible refine Below.setCell ?_ ?_ _); rotate_left; (first | omega | (simp <;> omega))) | (with_reducible refine below_drewN ?_ _) | (with_reducible refine Below.drew ?_) | ((with_reducible refine Below.step (by assumption) ?_ ?_); rotate_left; (first | omega | (simp <;> omega))))) (by first | omega | (simp <;> omega))) _, fun x hx => .inl hx⟩)
    rw [hR]
    have HPNE := Lib.hid hp
    generalize pk Ts a = y at *
    clear hR hn hp HG0
    go_enter Tryz.func114, Tryz.ntmps114
    go_wp2_with (first | (go_at_call 59; refine HPKa.out.mono ?_; rintro e w1 ⟨rfl, hb1⟩; have HIV := Lib.hid (HST.out w1 hb1); clear hb1) | fail)
    go_loopg [7, 8] (k + 1) (fun g p _ wr => ∃ (l : List Int) (PA : Option Addr) (pc : Nat), p = .slice PA l.length pc ∧ CallInv B base TA tc Ts AA ac as_ X NA (k + 1) d name R w g l PA pc wr)
    case atStart => exact ⟨[], _, 0, rfl, HIV.out⟩
    case round =>
      obtain ⟨l, PA, pc, rfl, a1, NA1, nc1, n1, f, hst, ha1, hf1, hf2, hf3, hR, hnl, hl3, hg, hO, hS⟩ := hrel
      obtain ⟨wo, rfl⟩ : ∃ wo, wo = wr := ⟨_, rfl⟩
      obtain ⟨f', rfl⟩ : ∃ f', f = f' + 1 := ⟨f - 1, by omega⟩
      have hPge := hg.ge
      have hPlt := hg.lt
      have hOz := hO.size
      have HS0 := Lib.hid hst
      have HO := Lib.hid hO
      have HSb := Lib.hid hS
      have HG := Lib.hid hg
      have HGE := Lib.hid hPge
      have hB0 := hst.1.lt
      clear HIV HSA HPKa hne hne2
      by_cases h3 : l.length = 3
      · rw [prs_args3 hnl h3] at hR
        subst hR
        have e3 : ((l.length : Int) == 3) = true := by rw [h3]; rfl
        have HFL := Lib.hid (S_l13Fail wo hst ha1)
        clear h3 hst hO hS hg hPge hPlt hnl
        go_wp2_with (first | (go_at_call 28; refine HFL.out.mono ?_; rintro e w2 ⟨rfl, rfl⟩) | fail)
        go_ret
        exact ⟨0, _, _, _, _, rfl, (HS0.out.setBad _).1.drew, hk.off _, (HO.out.setCell (by simp) _).drew⟩
      · have e3 : ((l.length : Int) == 3) = false := by rw [beq_eq_false_iff_ne]; omega
        have hE := prs_ends hk.ok f' (.bin true) d a1 n1 ha1 (by show 3 + _ ≤ f'; omega)
        have HEX := Lib.hid (S_l13Expression (ih f' (by omega)) wo hst ha1 hd (by omega))
        cases hr : prs Ts f' (.bin true) d a1 n1 with
        | out => exact absurd hr hE.1
        | bad o =>
          rw [prs_argsB hnl h3 hr] at hR
          subst hR
          rw [hr] at HEX
          clear h3 hst hO hS hg hPge hPlt hnl hr hE
          go_wp2_with (first | (go_at_call 30; refine HEX.out.mono ?_; rintro e u2 ⟨r, b0, b1, b2, b3, rfl, hw2, ho2, hO2⟩; have HW2 := Lib.hid hw2; have HO2 := Lib.hid hO2; have g4 := hw2.cell 4; (try dsimp only [List.getElem?_cons_succ, List.getElem?_cons_zero] at g4); clear hw2 hO2) | fail)
          go_ret
          exact PGo.comp HO.out HSb.out ⟨0, b0, b1, b2, b3, rfl, HW2.out, ho2, HO2.out⟩
        | ok v a2 n2 =>
          rw [hr] at HEX
          have h6 := hE.2 v a2 n2 hr
          have h6' : a1 + 1 ≤ a2 ∧ a2 < Ts.length := h6
          -- what stands behind the append
          have HAPD : Hid (∀ (u2 u3 : World) (NA2 : Option Addr) (nc2 : Nat) (ob : Obj) (A' : Option Addr) (c' : Nat), SpSt u2 B base TA tc Ts AA ac as_ (gOf PA ++ X) a2 NA2 nc2 n2 (-1) → Only wo.heap.size (B :: gOf NA1) wo u2 → (∀ x, x ∈ gOf NA2 → x ∈ gOf NA1 ∨ wo.heap.size ≤ x) →
              Appended (u2.alloc ob) w.heap.size 3 1 PA l.length (ints l ++ ints [v]) A' (l.length + 1) c' u3 → SpSt u3 B base TA tc Ts AA ac as_ (gOf A' ++ X) a2 NA2 nc2 n2 (-1) ∧ Grow u3 w.heap.size 3 1 A' (l ++ [v]).length c' (ints (l ++ [v])) ∧ Only w.heap.size (B :: gOf NA) w u3 ∧ (∀ x, x ∈ gOf NA2 → x ∈ gOf NA ∨ w.heap.size ≤ x)) := Lib.hid (fun u2 u3 NA2 nc2 ob A' c' q1 q2 q3 gA => by
            obtain ⟨r1, r2⟩ := PGo.after (B := B) HO.out HSb.out q2 q3 ob
            refine ⟨(q1.alloc ob).app gA, ?_, r1.app gA HGE.out, r2⟩
            have := gA.1
            rw [show ints l ++ ints [v] = ints (l ++ [v]) by simp [ints]] at this
            rw [show (l ++ [v]).length = l.length + 1 by simp]
            exact this)
          have HGR : Hid (∀ u2, Only wo.heap.size (B :: gOf NA1) wo u2 → Grow u2 w.heap.size 3 1 PA l.length pc (ints l)) := Lib.hid (fun u2 q => HG.out.only q (fun x hx => ⟨hPlt x hx, fun r => by
            rcases List.mem_cons.1 r with r | r
            · exact (HS0.out.2.xlt x (by simp [hx])).2 r
            · exact (HS0.out.2.apN x r).2.2 (by simp [hx])⟩))
          have hl2 : l.length ≤ 2 := by omega
          clear hst hO hS hg hPge hPlt hE
          by_cases hp44 : pk Ts a2 = [44]
          · rw [prs_argsN hnl h3 hr hp44] at hR
            have hin := pk_in hk.ok h6'.2 (by rw [hp44]; simp)
            have HNX : Hid (∀ (u4 : World) (NA2 : Option Addr) (nc2 : Nat) (A' : Option Addr) (c' : Nat), SpSt u4 B base TA tc Ts AA ac as_ (gOf A' ++ X) a2 NA2 nc2 n2 (-1) → Grow u4 w.heap.size 3 1 A' (l ++ [v]).length c' (ints (l ++ [v])) → Only w.heap.size (B :: gOf NA) w u4 → (∀ x, x ∈ gOf NA2 → x ∈ gOf NA ∨ w.heap.size ≤ x) → CallInv B base TA tc Ts AA ac as_ X NA (k + 1) d name R w (gk - 1) (l ++ [v]) A' c' (u4.setCell ⟨B, 1, none⟩ (.int .i64 ((a2 : Int) + 1)))) := Lib.hid (fun u4 NA2 nc2 A' c' q1 q2 q3 q4 => by
              have q5 := q1.setAt (a2 + 1)
              refine ⟨a2 + 1, NA2, nc2, n2, f', by simpa using q5, hin, by omega, by omega, by omega, hR, fun q => by simp at q, by simp; omega, ?_, q3.setCell (by simp) _, q4⟩
              exact q2.keep (fun x hx => Below.heap_setCell _ _ _ _ (fun e => (q1.2.xlt x (by simp [hx])).2 e)))
            have HPK2 : Hid (∀ (u3 : World) (NA2 : Option Addr) (nc2 : Nat) (Y : List Nat), SpSt u3 B base TA tc Ts AA ac as_ Y a2 NA2 nc2 n2 (-1) → Calls Tryz.prog 59 #[.pointer (some ⟨B, 0, none⟩)] u3 fun e w' => e = .returned (.string ⟨#[44]⟩) ∧ Below u3.heap.size u3 w') := Lib.hid (fun u3 NA2 nc2 Y q => by have := HPK.out u3 a2 NA2 nc2 n2 Y q h6'.2; rw [hp44] at this; exact this)
            have ha2s : a2 < 1048576 := by omega
            clear h3 hr hR hp44 hnl HPK
            go_wp2_with (first | (go_at_call 30; refine HEX.out.mono ?_; rintro e u2 ⟨NA2, nc2, rfl, hs2, hO2, hS2⟩; have HS2 := Lib.hid hs2; have HO2 := Lib.hid hO2; have HSb2 := Lib.hid hS2; have g4 := hs2.cells.2.2.2.2.2.1; have hz2 := hO2.size; have HG2 := Lib.hid (HGR.out u2 hO2); clear hs2 hO2 hS2) | (at_builtin; refine wpList_app (by rfl) _ _ 37 (by rfl) (w.heap.size) 3 (.int .i64 0) 1 8 Tryz.underlying37 T.infoInt rfl (by decide) (xs := ints l) (by rfl) ?_ (ys := ints [v]) (by rfl) ?_ (ints_one _) ?_ ?_ ?_ ?_; (exact (by repeat (first | (with_reducible exact HG2.out) | (with_reducible refine Grow.alloc ?_ _) | (with_reducible refine Grow.drewN ?_ _) | (with_reducible refine Grow.drew ?_) | ((with_reducible refine Grow.far ?_ ?_ _); rotate_left; (first | omega | (simp <;> omega))) | (with_reducible refine Grow.step (by assumption) ?_)))); (exact (Grow.rs (base := 0) (n := 1) (c := 1) (by repeat (first | (with_reducible refine Grow.drewN ?_ _) | (with_reducible refine Grow.drew ?_) | (refine Grow.lit_at (by simp) (by rfl) (Nat.zero_le _) (by unfold maxLen; omega)))))); (unfold maxLen; omega); (omega); (first | omega | (simp <;> omega)); rintro A' c' w2 gA; obtain ⟨z1, z2, z3, z4⟩ := HAPD.out _ _ _ _ _ _ _ HS2.out HO2.out HSb2.out gA; have HS3 := Lib.hid z1; have HG3 := Lib.hid z2; have HO3 := Lib.hid z3; have HSb3 := Lib.hid z4; have hz3 := z3.size; clear gA z1 z2 z3 z4) | (go_at_call 59; refine (HPK2.out _ _ _ _ HS3.out).mono ?_; rintro e u4 ⟨rfl, hb4⟩; have HS4 := Lib.hid (HS3.out.step hb4); have HG4 := Lib.hid (HG3.out.step hb4); have HO4 : Hid (Only w.heap.size (B :: gOf NA) w u4) := Lib.hid (HO3.out.sub (Only.of_below hb4 []) hz3 (fun x hx => by cases hx)); have d1 := HS4.out.cells.2.2.1; have df := HS4.out.cells.2.2.2.2.2.2; have dB := HS4.out.cells.1; clear hb4) | fail)
            go_roundg (gk - 1)
            case measure => omega
            case rel => exact ⟨l ++ [v], _, _, by rw [List.length_append]; rfl, HNX.out _ _ _ _ _ HS4.out HG4.out HO4.out HSb3.out⟩
          · have HPK2 : Hid (∀ (u3 : World) (NA2 : Option Addr) (nc2 : Nat) (Y : List Nat), SpSt u3 B base TA tc Ts AA ac as_ Y a2 NA2 nc2 n2 (-1) → Calls Tryz.prog 59 #[.pointer (some ⟨B, 0, none⟩)] u3 fun e w' => e = .returned (str (pk Ts a2)) ∧ Below u3.heap.size u3 w') := Lib.hid (fun u3 NA2 nc2 Y q => HPK.out u3 a2 NA2 nc2 n2 Y q h6'.2)
            have hm : (pk Ts a2 != [44]) = true := by simpa using hp44
            have hm2 : (pk Ts a2 == [44]) = false := by simpa using hp44
            by_cases hp41 : pk Ts a2 = [41]
            · rw [prs_argsE hnl h3 hr hp44 hp41] at hR
              have hin := pk_in hk.ok h6'.2 (by rw [hp41]; simp)
              have HXPa : Hid (∀ (wx : World) (NA2 : Option Addr) (nc2 : Nat) (Y : List Nat), SpSt wx B base TA tc Ts AA ac as_ Y a2 NA2 nc2 n2 (-1) → Calls Tryz.prog 29 #[.pointer (some ⟨B, 0, none⟩), .string ⟨#[41]⟩] wx (PExp B base TA tc Ts AA ac as_ Y a2 NA2 nc2 n2 true wx)) := Lib.hid (fun wx NA2 nc2 Y hx => by have := HXP.out wx a2 NA2 nc2 n2 Y hx h6'.2; rw [hp41] at this; exact this)
              have HEMa : Hid (∀ (wx : World) (NA2 : Option Addr) (nc2 : Nat) (A' : Option Addr) (c' : Nat), SpSt wx B base TA tc Ts AA ac as_ (gOf A' ++ X) (a2 + 1) NA2 nc2 n2 (-1) → Grow wx w.heap.size 3 1 A' (l ++ [v]).length c' (ints (l ++ [v])) → Calls Tryz.prog 89 #[.pointer (some ⟨B, 0, none⟩), nodeV 8 name 0 (.slice A' (l.length + 1) c')] wx (PGo B base TA tc Ts AA ac as_ X NA2 R wx)) := Lib.hid (fun wx NA2 nc2 A' c' hx hg => by
                have := HEM.out wx a2 NA2 nc2 n2 (l ++ [v]) A' c' hx hin hg.ownS hg.ge
                rw [hR, show (l ++ [v]).length = l.length + 1 by simp] at this
                exact this)
              clear h3 hr hR hp44 hp41 hnl HPK HXP HEM
              generalize pk Ts a2 = y2 at *
              go_wp2_with (first | (go_at_call 30; refine HEX.out.mono ?_; rintro e u2 ⟨NA2, nc2, rfl, hs2, hO2, hS2⟩; have HS2 := Lib.hid hs2; have HO2 := Lib.hid hO2; have HSb2 := Lib.hid hS2; have g4 := hs2.cells.2.2.2.2.2.1; have hz2 := hO2.size; have HG2 := Lib.hid (HGR.out u2 hO2); clear hs2 hO2 hS2) | (at_builtin; refine wpList_app (by rfl) _ _ 37 (by rfl) (w.heap.size) 3 (.int .i64 0) 1 8 Tryz.underlying37 T.infoInt rfl (by decide) (xs := ints l) (by rfl) ?_ (ys := ints [v]) (by rfl) ?_ (ints_one _) ?_ ?_ ?_ ?_; (exact (by repeat (first | (with_reducible exact HG2.out) | (with_reducible refine Grow.alloc ?_ _) | (with_reducible refine Grow.drewN ?_ _) | (with_reducible refine Grow.drew ?_) | ((with_reducible refine Grow.far ?_ ?_ _); rotate_left; (first | omega | (simp <;> omega))) | (with_reducible refine Grow.step (by assumption) ?_)))); (exact (Grow.rs (base := 0) (n := 1) (c := 1) (by repeat (first | (with_reducible refine Grow.drewN ?_ _) | (with_reducible refine Grow.drew ?_) | (refine Grow.lit_at (by simp) (by rfl) (Nat.zero_le _) (by unfold maxLen; omega)))))); (unfold maxLen; omega); (omega); (first | omega | (simp <;> omega)); rintro A' c' w2 gA; obtain ⟨z1, z2, z3, z4⟩ := HAPD.out _ _ _ _ _ _ _ HS2.out HO2.out HSb2.out gA; have HS3 := Lib.hid z1; have HG3 := Lib.hid z2; have HO3 := Lib.hid z3; have HSb3 := Lib.hid z4; have hz3 := z3.size; clear gA z1 z2 z3 z4) | (go_at_call 59; refine (HPK2.out _ _ _ _ HS3.out).mono ?_; rintro e u4 ⟨rfl, hb4⟩; have HS4 := Lib.hid (HS3.out.step hb4); have HG4 := Lib.hid (HG3.out.step hb4); have HO4 : Hid (Only w.heap.size (B :: gOf NA) w u4) := Lib.hid (HO3.out.sub (Only.of_below hb4 []) hz3 (fun x hx => by cases hx)); have hz4 := HO4.out.size; clear hb4) | (go_at_call 29; refine (HXPa.out _ _ _ _ HS4.out).mono ?_; rintro e u5 ⟨rfl, hO5, hs5, _⟩; have HS5 := Lib.hid (hs5 rfl); have HG5 := Lib.hid (HG4.out.only hO5 (fun x hx => ⟨HG4.out.lt x hx, fun r => by simp at r; exact (HS4.out.2.xlt x (by simp [hx])).2 r⟩)); have HO5 : Hid (Only w.heap.size (B :: gOf NA) w u5) := Lib.hid (HO4.out.sub hO5 hz4 (fun x hx => .inl (by simp at hx; simp [hx]))); clear hO5 hs5) | (go_at_call 89; refine (HEMa.out _ _ _ _ _ HS5.out HG5.out).mono ?_; rintro e u6 hg; obtain ⟨v6, rfl⟩ := hg.ret; have HG6 := Lib.hid (hg.comp HO5.out HSb3.out); clear hg) | fail)
              go_ret
              exact HG6.out
            · rw [prs_argsX hnl h3 hr hp44 hp41] at hR
              subst hR
              have hdf : decide (pk Ts a2 = [41]) = false := by simp [hp41]
              have HXPa : Hid (∀ (wx : World) (NA2 : Option Addr) (nc2 : Nat) (Y : List Nat), SpSt wx B base TA tc Ts AA ac as_ Y a2 NA2 nc2 n2 (-1) → Calls Tryz.prog 29 #[.pointer (some ⟨B, 0, none⟩), .string ⟨#[41]⟩] wx (PExp B base TA tc Ts AA ac as_ Y a2 NA2 nc2 n2 false wx)) := Lib.hid (fun wx NA2 nc2 Y hx => by have := HXP.out wx a2 NA2 nc2 n2 Y hx h6'.2; rw [hdf] at this; exact this)
              clear h3 hr hp44 hp41 hnl HPK HXP HEM hdf
              generalize pk Ts a2 = y2 at *
              go_wp2_with (first | (go_at_call 30; refine HEX.out.mono ?_; rintro e u2 ⟨NA2, nc2, rfl, hs2, hO2, hS2⟩; have HS2 := Lib.hid hs2; have HO2 := Lib.hid hO2; have HSb2 := Lib.hid hS2; have g4 := hs2.cells.2.2.2.2.2.1; have hz2 := hO2.size; have HG2 := Lib.hid (HGR.out u2 hO2); clear hs2 hO2 hS2) | (at_builtin; refine wpList_app (by rfl) _ _ 37 (by rfl) (w.heap.size) 3 (.int .i64 0) 1 8 Tryz.underlying37 T.infoInt rfl (by decide) (xs := ints l) (by rfl) ?_ (ys := ints [v]) (by rfl) ?_ (ints_one _) ?_ ?_ ?_ ?_; (exact (by repeat (first | (with_reducible exact HG2.out) | (with_reducible refine Grow.alloc ?_ _) | (with_reducible refine Grow.drewN ?_ _) | (with_reducible refine Grow.drew ?_) | ((with_reducible refine Grow.far ?_ ?_ _); rotate_left; (first | omega | (simp <;> omega))) | (with_reducible refine Grow.step (by assumption) ?_)))); (exact (Grow.rs (base := 0) (n := 1) (c := 1) (by repeat (first | (with_reducible refine Grow.drewN ?_ _) | (with_reducible refine Grow.drew ?_) | (refine Grow.lit_at (by simp) (by rfl) (Nat.zero_le _) (by unfold maxLen; omega)))))); (unfold maxLen; omega); (omega); (first | omega | (simp <;> omega)); rintro A' c' w2 gA; obtain ⟨z1, z2, z3, z4⟩ := HAPD.out _ _ _ _ _ _ _ HS2.out HO2.out HSb2.out gA; have HS3 := Lib.hid z1; have HG3 := Lib.hid z2; have HO3 := Lib.hid z3; have HSb3 := Lib.hid z4; have hz3 := z3.size; clear gA z1 z2 z3 z4) | (go_at_call 59; refine (HPK2.out _ _ _ _ HS3.out).mono ?_; rintro e u4 ⟨rfl, hb4⟩; have HS4 := Lib.hid (HS3.out.step hb4); have HG4 := Lib.hid (HG3.out.step hb4); have HO4 : Hid (Only w.heap.size (B :: gOf NA) w u4) := Lib.hid (HO3.out.sub (Only.of_below hb4 []) hz3 (fun x hx => by cases hx)); have hz4 := HO4.out.size; clear hb4) | (go_at_call 29; refine (HXPa.out _ _ _ _ HS4.out).mono ?_; rintro e u5 ⟨rfl, hO5, _, hs5⟩; obtain ⟨b0, b1, b2, b3, hw5⟩ := hs5 rfl; have HW5 := Lib.hid hw5; have HO5 : Hid (Only w.heap.size (B :: gOf NA) w u5) := Lib.hid (HO4.out.sub hO5 hz4 (fun x hx => .inl (by simp at hx; simp [hx]))); clear hO5 hs5 hw5) | fail)
              go_ret
              exact ⟨0, b0, b1, b2, b3, rfl, HW5.out, hk.off _, HO5.out⟩
end Go.Proofs.YtnlbojckobgjpaaGreatDoor
