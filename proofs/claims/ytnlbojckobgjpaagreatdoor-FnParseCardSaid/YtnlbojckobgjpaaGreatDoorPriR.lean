/- The program's parser: the functions that call each other. -/
import Derived.Test.YtnlbojckobgjpaaGreatDoorPriS
import Derived.Test.YtnlbojckobgjpaaGreatDoorParR
set_option linter.unusedVariables false
set_option linter.unusedSimpArgs false
namespace Go.Proofs.YtnlbojckobgjpaaGreatDoor
open Go.RowKit Go.Lib
set_option maxRecDepth 100000
section
variable {w w' w1 : World} {B base : Nat} {TA : Option Addr} {tc : Nat} {Ts : List ETok} {AA : Option Addr} {ac : Nat} {as_ : List EAssign} {X : List Nat} {NA NA1 : Option Addr} {nc : Nat} {ns : List ENode} {a : Nat} {dp : Int} {r : PR} {e : Ending}
theorem IpSt.ownX {Y : List Nat} (h : IpSt w B base TA tc Ts AA ac as_ X a dp NA nc ns) (hb : Below w.heap.size w w') (hY : ∀ y, y ∈ Y → y < w'.heap.size ∧ (y ∈ X ∨ w.heap.size ≤ y)) : IpSt w' B base TA tc Ts AA ac as_ Y a dp NA nc ns := ⟨h.1.step hb, h.2.own hb hY⟩
theorem IpSt.fresh_ (h : IpSt w B base TA tc Ts AA ac as_ X a dp NA nc ns) (o : Obj) : IpSt (w.alloc o) B base TA tc Ts AA ac as_ (gOf (some ⟨w.heap.size, 0, none⟩) ++ X) a dp NA nc ns := h.ownX ((Below.refl _ _).alloc (Nat.le_refl _) _) (fun y hy => by
    simp only [gOf, List.mem_append, List.mem_cons, List.not_mem_nil, or_false] at hy
    rcases hy with rfl | hy
    · exact ⟨by simp, .inr (Nat.le_refl _)⟩
    · exact ⟨by have := (h.2.xlt y hy).1; simp; omega, .inl hy⟩)
theorem IGo.comp (h1 : Only w.heap.size (B :: gOf NA) w w1) (hs : ∀ x, x ∈ gOf NA1 → x ∈ gOf NA ∨ w.heap.size ≤ x) (h : IGo B base TA tc Ts AA ac as_ X dp NA1 r w1 e w') : IGo B base TA tc Ts AA ac as_ X dp NA r w e w' := by
  have hsub : ∀ x, x ∈ B :: gOf NA1 → x ∈ B :: gOf NA ∨ w.heap.size ≤ x := fun x hx => by
    rcases List.mem_cons.1 hx with rfl | hx
    · exact .inl (by simp)
    · exact (hs x hx).imp (fun q => List.mem_cons_of_mem _ q) id
  cases r with
  | ok v a ns =>
    obtain ⟨NA', nc', rfl, h2, h3, h4⟩ := h
    refine ⟨NA', nc', rfl, h2, h1.sub h3 h1.size hsub, fun x hx => ?_⟩
    rcases h4 x hx with q | q
    · exact hs x q
    · exact .inr (Nat.le_trans h1.size q)
  | bad o =>
    obtain ⟨rfl, h2, h4⟩ := h
    exact ⟨rfl, h2, h1.sub h4 h1.size hsub⟩
  | out => exact h.elim
end
def opF (add : Bool) : Nat := if add then 77 else 102
def biF (add : Bool) : Nat := if add then 50 else 77
/-- The functions, with this much fuel. -/
structure IPc (B base : Nat) (TA : Option Addr) (tc : Nat) (Ts : List ETok) (AA : Option Addr) (ac : Nat) (as_ : List EAssign) (n : Nat) : Prop where
  bin : ∀ (add : Bool) (d a : Nat) (X : List Nat) (NA : Option Addr) (nc : Nat) (ns : List ENode) (w : World), IpSt w B base TA tc Ts AA ac as_ X a d NA nc ns → a < Ts.length → d ≤ 64 → mu (.bin add) + 4 * (Ts.length - a) ≤ n →
    Calls Tryz.prog (biF add) #[.pointer (some ⟨B, 0, none⟩)] w (IGo B base TA tc Ts AA ac as_ X d NA (prs Ts n (.bin add) (d + 1) a ns) w)
  fac : ∀ (d a : Nat) (X : List Nat) (NA : Option Addr) (nc : Nat) (ns : List ENode) (w : World), IpSt w B base TA tc Ts AA ac as_ X a d NA nc ns → a < Ts.length → d ≤ 64 → 1 + 4 * (Ts.length - a) ≤ n →
    Calls Tryz.prog 102 #[.pointer (some ⟨B, 0, none⟩)] w (IGo B base TA tc Ts AA ac as_ X d NA (prs Ts n .fac (d + 1) a ns) w)
  cal : ∀ (name : List UInt8) (d a : Nat) (X : List Nat) (NA : Option Addr) (nc : Nat) (ns : List ENode) (w : World), IpSt w B base TA tc Ts AA ac as_ X a d NA nc ns → a + 1 < Ts.length → d ≤ 64 → pk Ts a = [40] → 4 + 4 * (Ts.length - (a + 1)) ≤ n →
    Calls Tryz.prog 112 #[.pointer (some ⟨B, 0, none⟩), str name] w (IGo B base TA tc Ts AA ac as_ X d NA (prs Ts n (.args name []) (d + 1) (a + 1) ns) w)
theorem IPc.opd {B base : Nat} {TA : Option Addr} {tc : Nat} {Ts : List ETok} {AA : Option Addr} {ac : Nat} {as_ : List EAssign} {n : Nat} (ih : IPc B base TA tc Ts AA ac as_ n) (add : Bool) {d a : Nat} {X : List Nat} {NA : Option Addr} {nc : Nat} {ns : List ENode} (w : World)
    (h : IpSt w B base TA tc Ts AA ac as_ X a d NA nc ns) (ha : a < Ts.length) (hd : d ≤ 64) (hn : mu (opd add) + 4 * (Ts.length - a) ≤ n) :
    Calls Tryz.prog (opF add) #[.pointer (some ⟨B, 0, none⟩)] w (IGo B base TA tc Ts AA ac as_ X d NA (prs Ts n (Go.Proofs.YtnlbojckobgjpaaGreatDoor.opd add) (d + 1) a ns) w) := by
  cases add with
  | true => exact ih.bin false d a X NA nc ns w h ha hd hn
  | false => exact ih.fac d a X NA nc ns w h ha hd hn
theorem opF_call (add : Bool) (args : Array Value) (w : World) : (callFunc (opF add) args).run Tryz.prog w = .ok (.enter (opF add) args) w := by
  cases add
  · show (callFunc 102 args).run Tryz.prog w = .ok (.enter 102 args) w
    have hf := Tryz.func102
    simp [go_sem, hf]
  · show (callFunc 77 args).run Tryz.prog w = .ok (.enter 77 args) w
    have hf := Tryz.func77
    simp [go_sem, hf]
/-- What chain's loop keeps. -/
def ChInv (B base : Nat) (TA : Option Addr) (tc : Nat) (Ts : List ETok) (AA : Option Addr) (ac : Nat) (as_ : List EAssign) (X : List Nat) (NA : Option Addr) (n d : Nat) (add : Bool) (R : PR) (w : World) (k : Nat) (v : Int) (wr : World) : Prop :=
  ∃ (a1 : Nat) (NA1 : Option Addr) (nc1 : Nat) (n1 : List ENode) (f : Nat), IpSt wr B base TA tc Ts AA ac as_ X a1 d NA1 nc1 n1 ∧ a1 < Ts.length ∧ 4 + 4 * (Ts.length - a1) ≤ f ∧ f ≤ n ∧ f ≤ k ∧ prs Ts f (.loop add v) (d + 1) a1 n1 = R ∧ Only w.heap.size (B :: gOf NA) w wr ∧ (∀ x, x ∈ gOf NA1 → x ∈ gOf NA ∨ w.heap.size ≤ x)
set_option maxHeartbeats 2000000 in
theorem I_chain {B base : Nat} {TA : Option Addr} {tc : Nat} {Ts : List ETok} {AA : Option Addr} {ac : Nat} {as_ : List EAssign} {k : Nat} (hk : TokK Ts) (add : Bool) (c0 c1 : UInt8) (i1 i2 : Int) (hop : ∀ x, opS add x = if x = [c0] then i1 else if x = [c1] then i2 else 0) (hi1 : i1 ≠ 0) (hi2 : i2 ≠ 0) (hcc : c1 ≠ c0) {d a : Nat} {X : List Nat} {NA : Option Addr} {nc : Nat} {ns : List ENode} (w : World)
    (HOP : Hid (∀ f, f ≤ k → ∀ (a : Nat) (NA : Option Addr) (nc : Nat) (ns : List ENode) (wx : World), IpSt wx B base TA tc Ts AA ac as_ X a d NA nc ns → a < Ts.length → mu (opd add) + 4 * (Ts.length - a) ≤ f →
      Calls Tryz.prog (opF add) #[.pointer (some ⟨B, 0, none⟩)] wx (IGo B base TA tc Ts AA ac as_ X d NA (prs Ts f (opd add) (d + 1) a ns) wx)))
    (h : IpSt w B base TA tc Ts AA ac as_ X a d NA nc ns) (ha : a < Ts.length) (hn : mu (.bin add) + 4 * (Ts.length - a) ≤ k + 1) :
    Calls Tryz.prog 76 #[.pointer (some ⟨B, 0, none⟩), .func (.func (opF add)) #[.pointer (some ⟨B, 0, none⟩)] #[], str [c0, c1], .int .i64 i1, .int .i64 i2] w (IGo B base TA tc Ts AA ac as_ X d NA (prs Ts (k + 1) (.bin add) (d + 1) a ns) w) := by
  obtain ⟨h1, h2, h3⟩ := mu_opd add
  have hE := prs_ends hk.ok k (opd add) (d + 1) a ns ha (by omega)
  have HC := Lib.hid (HOP.out k (Nat.le_refl _) a NA nc ns w h ha (by omega))
  have hcf := opF_call add
  have he1 : ({ data := #[c0, c1] } : ByteArray).extract 0 1 = ⟨#[c0]⟩ := rfl
  have he2 : ({ data := #[c0, c1] } : ByteArray).extract 1 2 = ⟨#[c1]⟩ := rfl
  cases hr0 : prs Ts k (opd add) (d + 1) a ns with
  | out => exact absurd hr0 hE.1
  | bad o =>
    rw [prs_bin2 hr0]
    rw [hr0] at HC
    generalize opF add = gF at *
    clear hop hE h hn hr0 HOP
    go_enter Tryz.func76, Tryz.ntmps76
    go_wp2_with fail
    refine HC.out.mono ?_
    rintro e w1 ⟨rfl, q1, q2⟩
    have Q1 := Lib.hid q1
    have Q2 := Lib.hid q2
    clear q1 q2
    go_wp2_with fail
    exact ⟨rfl, rfl, Q1.out, Q2.out⟩
  | ok v0 a1 n1 =>
    --OKARM
    have h5 := hE.2 v0 a1 n1 hr0
    rw [st_opd] at h5
    obtain ⟨R, hR⟩ : ∃ R, prs Ts (k + 1) (.bin add) (d + 1) a ns = R := ⟨_, rfl⟩
    rw [hr0] at HC
    have HST : Hid (∀ (NA' : Option Addr) (nc' : Nat) (w1 : World), IpSt w1 B base TA tc Ts AA ac as_ X a1 d NA' nc' n1 → Only w.heap.size (B :: gOf NA) w w1 → (∀ x, x ∈ gOf NA' → x ∈ gOf NA ∨ w.heap.size ≤ x) → ChInv B base TA tc Ts AA ac as_ X NA k d add R w k v0 w1) := Lib.hid (fun NA' nc' w1 q1 q2 q3 => ⟨a1, NA', nc', n1, k, q1, h5.2, by omega, Nat.le_refl _, Nat.le_refl _, by rw [← hR, prs_bin1 hr0], q2, q3⟩)
    rw [hR]
    generalize opF add = gF at *
    clear hE h hn hR hr0
    go_enter Tryz.func76, Tryz.ntmps76
    go_wp2_with fail
    (with_reducible refine HC.out.mono ?_)
    rintro e w1 ⟨NA', nc', rfl, q1, q2, q3⟩
    have HV := Lib.hid (HST.out NA' nc' w1 q1 q2 q3)
    clear q1 q2 q3
    go_wp2_with fail
    go_loopg [11, 12, 13] k (fun g p _ _ wr => ∃ v : Int, p = .int .i64 v ∧ ChInv B base TA tc Ts AA ac as_ X NA k d add R w g v wr)
    case atStart => exact ⟨v0, rfl, HV.out⟩
    case round =>
      obtain ⟨v', rfl, a2, NA1, nc1, n2, f, hst, ha1, hf1, hf2, hf3, hR, hO, hS⟩ := hrel
      obtain ⟨wo, rfl⟩ : ∃ wo, wo = wr := ⟨_, rfl⟩
      obtain ⟨f', rfl⟩ : ∃ f', f = f' + 1 := ⟨f - 1, by omega⟩
      have HS := Lib.hid hst
      have HO := Lib.hid hO
      have HSb := Lib.hid hS
      have hOz := hO.size
      have HI1 := Lib.hid (I_is [c0] wo hst ha1 (by simp))
      have HI2 : Hid (∀ wx, Below wo.heap.size wo wx → Calls Tryz.prog 75 #[.pointer (some ⟨B, 0, none⟩), .string ⟨#[c1]⟩] wx fun e w' => e = .returned (.bool (decide (pk Ts a2 = [c1]))) ∧ Below wx.heap.size wx w') := Lib.hid (fun wx hb => I_is [c1] wx (HS.out.step hb) ha1 (by simp))
      have HI1 : Hid (Calls Tryz.prog 75 #[.pointer (some ⟨B, 0, none⟩), .string ⟨#[c0]⟩] wo fun e w' => e = .returned (.bool (decide (pk Ts a2 = [c0]))) ∧ Below wo.heap.size wo w') := HI1
      have HNX : Hid (kd Ts a2 ≠ 0 → ∀ wx, Below wo.heap.size wo wx → Calls Tryz.prog 47 #[.pointer (some ⟨B, 0, none⟩)] wx fun e w' => ∃ v, e = .returned v ∧ IpSt w' B base TA tc Ts AA ac as_ X (a2 + 1) d NA1 nc1 n2 ∧ Only wx.heap.size [B] wx w') := Lib.hid (fun hkd wx hb => (I_next wx (HS.out.step hb) ha1 hk.len hkd).mono (fun e w' q => ⟨_, q⟩))
      clear HV HST HC hst hO hS
      by_cases hp0 : pk Ts a2 = [c0]
      · have hin1 := pk_in hk.ok ha1 (by rw [hp0]; simp)
        have HNX := Lib.hid (HNX.out (pk_kd hp0 (by simp)))
        rw [show decide (pk Ts a2 = [c0]) = true by simp [hp0]] at HI1
        have hqo : opS add (pk Ts a2) = i1 := by rw [hop]; simp [*]
        have hq0 : opS add (pk Ts a2) ≠ 0 := by rw [hqo]; assumption
        have hE := prs_ends hk.ok f' (opd add) (d + 1) (a2 + 1) n2 hin1 (by omega)
        have HOPR : Hid (∀ wx, IpSt wx B base TA tc Ts AA ac as_ X (a2 + 1) d NA1 nc1 n2 → Calls Tryz.prog gF #[.pointer (some ⟨B, 0, none⟩)] wx (IGo B base TA tc Ts AA ac as_ X d NA1 (prs Ts f' (opd add) (d + 1) (a2 + 1) n2) wx)) := Lib.hid (fun wx hx => HOP.out f' (by omega) (a2 + 1) NA1 nc1 n2 wx hx hin1 (by omega))
        cases hr : prs Ts f' (opd add) (d + 1) (a2 + 1) n2 with
        | out => exact absurd hr hE.1
        | bad o =>
          rw [prs_loop2 hq0 hr] at hR
          subst hR
          rw [hr] at HOPR
          clear hr hE hq0 hqo hop
          go_wp2_with fail
          (with_reducible refine HI1.out.mono ?_)
          rintro e u1 ⟨rfl, hb1⟩
          have HB1 := Lib.hid hb1
          clear hb1
          go_wp2_with fail
          (with_reducible refine (HNX.out _ HB1.out).mono ?_)
          rintro e u2 ⟨v2, rfl, hs2, hO2⟩
          have HS2 := Lib.hid hs2
          have HO2 : Hid (Only w.heap.size (B :: gOf NA) w u2) := Lib.hid ((HO.out.sub (Only.of_below HB1.out []) hOz (fun x hx => by cases hx)).sub hO2 (Nat.le_trans hOz HB1.out.size) (fun x hx => .inl (by simp at hx; simp [hx])))
          clear hs2 hO2
          go_wp2_with fail
          (with_reducible refine (HOPR.out _ HS2.out).mono ?_)
          rintro e u3 ⟨rfl, q1, q2⟩
          have Q1 := Lib.hid q1
          have Q2 : Hid (Only w.heap.size (B :: gOf NA) w u3) := Lib.hid (HO2.out.sub q2 HO2.out.size (fun x hx => by
            rcases List.mem_cons.1 hx with rfl | hx
            · exact .inl (by simp)
            · exact (HSb.out x hx).imp (fun q => List.mem_cons_of_mem _ q) id))
          clear q1 q2
          go_wp2_with fail
          exact ⟨rfl, rfl, Q1.out, Q2.out⟩
        | ok b a3 n3 =>
          have hR2 := prs_loop1 (v := v') hq0 hr
          rw [hR, hqo] at hR2
          rw [hr] at HOPR
          have h6 := hE.2 b a3 n3 hr
          rw [st_opd] at h6
          have HAD : Hid (∀ (wx : World) (NA2 : Option Addr) (nc2 : Nat), IpSt wx B base TA tc Ts AA ac as_ X a3 d NA2 nc2 n3 → Calls Tryz.prog 101 #[.pointer (some ⟨B, 0, none⟩), nodeV i1 [] 0 (.slice (some ⟨wx.heap.size, 0, none⟩) 2 2)] (wx.alloc (.cells #[.int .i64 v', .int .i64 b] 3)) (IGo B base TA tc Ts AA ac as_ X d NA2 (emit Ts (i1, [], 0, [v', b]) a3 n3) (wx.alloc (.cells #[.int .i64 v', .int .i64 b] 3)))) := Lib.hid (fun wx NA2 nc2 hx =>
            I_add (args := [v', b]) _ (hx.fresh_ _) (by omega) h6.2 hk.len (OwnS.some_ (Own.new wx 3 #[.int .i64 v', .int .i64 b]) rfl (by simp)) (fun y hy => by
              obtain rfl : y = wx.heap.size := by simpa [gOf] using hy
              exact fun q => by have := (hx.2.xlt _ q).1; omega))
          have ha3 := h6.2
          clear hr hE hq0 hqo hop hR
          cases he : emit Ts (i1, [], 0, [v', b]) a3 n3 with
          | out => unfold emit at he; split at he <;> cases he
          | bad o =>
            rw [he] at HAD hR2
            subst hR2
            clear he
            go_wp2_with fail
            (with_reducible refine HI1.out.mono ?_)
            rintro e u1 ⟨rfl, hb1⟩
            have HB1 := Lib.hid hb1
            clear hb1
            go_wp2_with fail
            (with_reducible refine (HNX.out _ HB1.out).mono ?_)
            rintro e u2 ⟨v2, rfl, hs2, hO2⟩
            have HS2 := Lib.hid hs2
            have HO2 : Hid (Only w.heap.size (B :: gOf NA) w u2) := Lib.hid ((HO.out.sub (Only.of_below HB1.out []) hOz (fun x hx => by cases hx)).sub hO2 (Nat.le_trans hOz HB1.out.size) (fun x hx => .inl (by simp at hx; simp [hx])))
            clear hs2 hO2
            go_wp2_with fail
            (with_reducible refine (HOPR.out _ HS2.out).mono ?_)
            rintro e u3 ⟨NA2, nc2, rfl, hs3, hO3, hS3⟩
            have HS3 := Lib.hid hs3
            have HOS := Lib.hid (PGo.after HO2.out HSb.out hO3 hS3 (.cells #[.int .i64 v', .int .i64 b] 3))
            clear hs3 hO3 hS3
            go_wp2_with fail
            (with_reducible refine (HAD.out _ _ _ HS3.out).mono ?_)
            rintro e u4 hg
            have HG4 := Lib.hid (hg.comp HOS.out.1 HOS.out.2)
            obtain ⟨rfl, q1, q2⟩ := hg
            clear q1 q2
            go_wp2_with fail
            exact ⟨rfl, HG4.out⟩
          | ok u a4 n4 =>
            obtain ⟨rfl, -⟩ := emit_at he
            rw [he] at HAD hR2
            clear he
            go_wp2_with fail
            (with_reducible refine HI1.out.mono ?_)
            rintro e u1 ⟨rfl, hb1⟩
            have HB1 := Lib.hid hb1
            clear hb1
            go_wp2_with fail
            (with_reducible refine (HNX.out _ HB1.out).mono ?_)
            rintro e u2 ⟨v2, rfl, hs2, hO2⟩
            have HS2 := Lib.hid hs2
            have HO2 : Hid (Only w.heap.size (B :: gOf NA) w u2) := Lib.hid ((HO.out.sub (Only.of_below HB1.out []) hOz (fun x hx => by cases hx)).sub hO2 (Nat.le_trans hOz HB1.out.size) (fun x hx => .inl (by simp at hx; simp [hx])))
            clear hs2 hO2
            go_wp2_with fail
            (with_reducible refine (HOPR.out _ HS2.out).mono ?_)
            rintro e u3 ⟨NA2, nc2, rfl, hs3, hO3, hS3⟩
            have HS3 := Lib.hid hs3
            have HOS := Lib.hid (PGo.after HO2.out HSb.out hO3 hS3 (.cells #[.int .i64 v', .int .i64 b] 3))
            clear hs3 hO3 hS3
            go_wp2_with fail
            (with_reducible refine (HAD.out _ _ _ HS3.out).mono ?_)
            rintro e u4 hg
            have hg2 := hg.comp HOS.out.1 HOS.out.2
            obtain ⟨NA4, nc4, rfl, p1, p2, p3⟩ := hg2
            have HV4 : Hid (ChInv B base TA tc Ts AA ac as_ X NA k d add R w (gk - 1) u u4) := Lib.hid ⟨a4, NA4, nc4, n4, f', p1, ha3, by omega, by omega, by omega, hR2.symm, p2, p3⟩
            clear hg p1 p2 p3
            go_wp2_with fail
            go_roundg (gk - 1)
            case measure => omega
            case rel => exact ⟨u, rfl, HV4.out⟩
      · rw [show decide (pk Ts a2 = [c0]) = false by simp [hp0]] at HI1
        by_cases hp1 : pk Ts a2 = [c1]
        · have hin1 := pk_in hk.ok ha1 (by rw [hp1]; simp)
          have HNX := Lib.hid (HNX.out (pk_kd hp1 (by simp)))
          rw [show decide (pk Ts a2 = [c1]) = true by simp [hp1]] at HI2
          have hqo : opS add (pk Ts a2) = i2 := by rw [hop]; simp [*]
          have hq0 : opS add (pk Ts a2) ≠ 0 := by rw [hqo]; assumption
          have hE := prs_ends hk.ok f' (opd add) (d + 1) (a2 + 1) n2 hin1 (by omega)
          have HOPR : Hid (∀ wx, IpSt wx B base TA tc Ts AA ac as_ X (a2 + 1) d NA1 nc1 n2 → Calls Tryz.prog gF #[.pointer (some ⟨B, 0, none⟩)] wx (IGo B base TA tc Ts AA ac as_ X d NA1 (prs Ts f' (opd add) (d + 1) (a2 + 1) n2) wx)) := Lib.hid (fun wx hx => HOP.out f' (by omega) (a2 + 1) NA1 nc1 n2 wx hx hin1 (by omega))
          cases hr : prs Ts f' (opd add) (d + 1) (a2 + 1) n2 with
          | out => exact absurd hr hE.1
          | bad o =>
            rw [prs_loop2 hq0 hr] at hR
            subst hR
            rw [hr] at HOPR
            clear hr hE hq0 hqo hop
            go_wp2_with fail
            (with_reducible refine HI1.out.mono ?_)
            rintro e u1 ⟨rfl, hb1⟩
            have HB1 := Lib.hid hb1
            clear hb1
            go_wp2_with fail
            (with_reducible refine (HI2.out _ HB1.out).mono ?_)
            rintro e u1 ⟨rfl, hb2⟩
            have HB2 := Lib.hid (Below.step hb2 HB1.out HB1.out.size)
            clear hb2 HB1
            have HB1 := HB2
            clear HB2
            go_wp2_with fail
            (with_reducible refine (HNX.out _ HB1.out).mono ?_)
            rintro e u2 ⟨v2, rfl, hs2, hO2⟩
            have HS2 := Lib.hid hs2
            have HO2 : Hid (Only w.heap.size (B :: gOf NA) w u2) := Lib.hid ((HO.out.sub (Only.of_below HB1.out []) hOz (fun x hx => by cases hx)).sub hO2 (Nat.le_trans hOz HB1.out.size) (fun x hx => .inl (by simp at hx; simp [hx])))
            clear hs2 hO2
            go_wp2_with fail
            (with_reducible refine (HOPR.out _ HS2.out).mono ?_)
            rintro e u3 ⟨rfl, q1, q2⟩
            have Q1 := Lib.hid q1
            have Q2 : Hid (Only w.heap.size (B :: gOf NA) w u3) := Lib.hid (HO2.out.sub q2 HO2.out.size (fun x hx => by
              rcases List.mem_cons.1 hx with rfl | hx
              · exact .inl (by simp)
              · exact (HSb.out x hx).imp (fun q => List.mem_cons_of_mem _ q) id))
            clear q1 q2
            go_wp2_with fail
            exact ⟨rfl, rfl, Q1.out, Q2.out⟩
          | ok b a3 n3 =>
            have hR2 := prs_loop1 (v := v') hq0 hr
            rw [hR, hqo] at hR2
            rw [hr] at HOPR
            have h6 := hE.2 b a3 n3 hr
            rw [st_opd] at h6
            have HAD : Hid (∀ (wx : World) (NA2 : Option Addr) (nc2 : Nat), IpSt wx B base TA tc Ts AA ac as_ X a3 d NA2 nc2 n3 → Calls Tryz.prog 101 #[.pointer (some ⟨B, 0, none⟩), nodeV i2 [] 0 (.slice (some ⟨wx.heap.size, 0, none⟩) 2 2)] (wx.alloc (.cells #[.int .i64 v', .int .i64 b] 3)) (IGo B base TA tc Ts AA ac as_ X d NA2 (emit Ts (i2, [], 0, [v', b]) a3 n3) (wx.alloc (.cells #[.int .i64 v', .int .i64 b] 3)))) := Lib.hid (fun wx NA2 nc2 hx =>
              I_add (args := [v', b]) _ (hx.fresh_ _) (by omega) h6.2 hk.len (OwnS.some_ (Own.new wx 3 #[.int .i64 v', .int .i64 b]) rfl (by simp)) (fun y hy => by
                obtain rfl : y = wx.heap.size := by simpa [gOf] using hy
                exact fun q => by have := (hx.2.xlt _ q).1; omega))
            have ha3 := h6.2
            clear hr hE hq0 hqo hop hR
            cases he : emit Ts (i2, [], 0, [v', b]) a3 n3 with
            | out => unfold emit at he; split at he <;> cases he
            | bad o =>
              rw [he] at HAD hR2
              subst hR2
              clear he
              go_wp2_with fail
              (with_reducible refine HI1.out.mono ?_)
              rintro e u1 ⟨rfl, hb1⟩
              have HB1 := Lib.hid hb1
              clear hb1
              go_wp2_with fail
              (with_reducible refine (HI2.out _ HB1.out).mono ?_)
              rintro e u1 ⟨rfl, hb2⟩
              have HB2 := Lib.hid (Below.step hb2 HB1.out HB1.out.size)
              clear hb2 HB1
              have HB1 := HB2
              clear HB2
              go_wp2_with fail
              (with_reducible refine (HNX.out _ HB1.out).mono ?_)
              rintro e u2 ⟨v2, rfl, hs2, hO2⟩
              have HS2 := Lib.hid hs2
              have HO2 : Hid (Only w.heap.size (B :: gOf NA) w u2) := Lib.hid ((HO.out.sub (Only.of_below HB1.out []) hOz (fun x hx => by cases hx)).sub hO2 (Nat.le_trans hOz HB1.out.size) (fun x hx => .inl (by simp at hx; simp [hx])))
              clear hs2 hO2
              go_wp2_with fail
              (with_reducible refine (HOPR.out _ HS2.out).mono ?_)
              rintro e u3 ⟨NA2, nc2, rfl, hs3, hO3, hS3⟩
              have HS3 := Lib.hid hs3
              have HOS := Lib.hid (PGo.after HO2.out HSb.out hO3 hS3 (.cells #[.int .i64 v', .int .i64 b] 3))
              clear hs3 hO3 hS3
              go_wp2_with fail
              (with_reducible refine (HAD.out _ _ _ HS3.out).mono ?_)
              rintro e u4 hg
              have HG4 := Lib.hid (hg.comp HOS.out.1 HOS.out.2)
              obtain ⟨rfl, q1, q2⟩ := hg
              clear q1 q2
              go_wp2_with fail
              exact ⟨rfl, HG4.out⟩
            | ok u a4 n4 =>
              obtain ⟨rfl, -⟩ := emit_at he
              rw [he] at HAD hR2
              clear he
              go_wp2_with fail
              (with_reducible refine HI1.out.mono ?_)
              rintro e u1 ⟨rfl, hb1⟩
              have HB1 := Lib.hid hb1
              clear hb1
              go_wp2_with fail
              (with_reducible refine (HI2.out _ HB1.out).mono ?_)
              rintro e u1 ⟨rfl, hb2⟩
              have HB2 := Lib.hid (Below.step hb2 HB1.out HB1.out.size)
              clear hb2 HB1
              have HB1 := HB2
              clear HB2
              go_wp2_with fail
              (with_reducible refine (HNX.out _ HB1.out).mono ?_)
              rintro e u2 ⟨v2, rfl, hs2, hO2⟩
              have HS2 := Lib.hid hs2
              have HO2 : Hid (Only w.heap.size (B :: gOf NA) w u2) := Lib.hid ((HO.out.sub (Only.of_below HB1.out []) hOz (fun x hx => by cases hx)).sub hO2 (Nat.le_trans hOz HB1.out.size) (fun x hx => .inl (by simp at hx; simp [hx])))
              clear hs2 hO2
              go_wp2_with fail
              (with_reducible refine (HOPR.out _ HS2.out).mono ?_)
              rintro e u3 ⟨NA2, nc2, rfl, hs3, hO3, hS3⟩
              have HS3 := Lib.hid hs3
              have HOS := Lib.hid (PGo.after HO2.out HSb.out hO3 hS3 (.cells #[.int .i64 v', .int .i64 b] 3))
              clear hs3 hO3 hS3
              go_wp2_with fail
              (with_reducible refine (HAD.out _ _ _ HS3.out).mono ?_)
              rintro e u4 hg
              have hg2 := hg.comp HOS.out.1 HOS.out.2
              obtain ⟨NA4, nc4, rfl, p1, p2, p3⟩ := hg2
              have HV4 : Hid (ChInv B base TA tc Ts AA ac as_ X NA k d add R w (gk - 1) u u4) := Lib.hid ⟨a4, NA4, nc4, n4, f', p1, ha3, by omega, by omega, by omega, hR2.symm, p2, p3⟩
              clear hg p1 p2 p3
              go_wp2_with fail
              go_roundg (gk - 1)
              case measure => omega
              case rel => exact ⟨u, rfl, HV4.out⟩
        · rw [show decide (pk Ts a2 = [c1]) = false by simp [hp1]] at HI2
          have hqo : opS add (pk Ts a2) = 0 := by rw [hop]; simp [hp0, hp1]
          rw [prs_loop0 hqo] at hR
          subst hR
          clear hqo hop
          go_wp2_with fail
          (with_reducible refine HI1.out.mono ?_)
          rintro e u1 ⟨rfl, hb1⟩
          have HB1 := Lib.hid hb1
          clear hb1
          go_wp2_with fail
          (with_reducible refine (HI2.out _ HB1.out).mono ?_)
          rintro e u2 ⟨rfl, hb2⟩
          have HB2 := Lib.hid (Below.step hb2 HB1.out HB1.out.size)
          clear hb2
          go_wp2_with fail
          go_ret
          exact ⟨NA1, nc1, rfl, HS.out.step HB2.out, HO.out.sub (Only.of_below HB2.out []) hOz (fun x hx => by cases hx), HSb.out⟩
    --ENDARM
end Go.Proofs.YtnlbojckobgjpaaGreatDoor
