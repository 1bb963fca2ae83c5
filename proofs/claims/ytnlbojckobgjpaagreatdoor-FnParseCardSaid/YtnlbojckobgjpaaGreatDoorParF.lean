/- MADE BY PROGRAM (genparr.py). The reference's parser: factors; the three functions joined. -/
import Derived.Test.YtnlbojckobgjpaaGreatDoorParR
set_option linter.unusedVariables false
set_option linter.unusedSimpArgs false
namespace Go.Proofs.YtnlbojckobgjpaaGreatDoor
open Go.RowKit Go.Lib
set_option maxRecDepth 100000
theorem prs_fac0 {T : List ETok} {n d a : Nat} {ns : List ENode} (h : 64 < d) : prs T (n + 1) .fac d a ns = .bad (of_ T a) := by rw [prs, if_pos h]
theorem prs_facM {T : List ETok} {n d a : Nat} {ns : List ENode} (h : ¬ 64 < d) (hp : pk T a = [45]) : prs T (n + 1) .fac d a ns = match prs T n .fac (d + 1) (a + 1) ns with | .ok v a1 n1 => emit T (3, [], 0, [v]) a1 n1 | .bad o => .bad o | .out => .out := by rw [prs, if_neg h, if_pos hp]; rfl
theorem prs_facP {T : List ETok} {n d a : Nat} {ns : List ENode} (h : ¬ 64 < d) (hp : pk T a = [40]) : prs T (n + 1) .fac d a ns = match prs T n (.bin true) (d + 1) (a + 1) ns with | .ok v a1 n1 => if pk T a1 = [41] then .ok v (a1 + 1) n1 else .bad (of_ T a1) | .bad o => .bad o | .out => .out := by rw [prs, if_neg h, if_neg (by rw [hp]; decide), if_pos hp]; rfl
theorem prs_facN {T : List ETok} {n d a : Nat} {ns : List ENode} (h : ¬ 64 < d) (h1 : pk T a ≠ [45]) (h2 : pk T a ≠ [40]) (hk : kd T a = 1) : prs T (n + 1) .fac d a ns = emit T (1, [], nm T a, []) (a + 1) ns := by rw [prs, if_neg h, if_neg h1, if_neg h2, if_pos hk]
theorem prs_facC {T : List ETok} {n d a : Nat} {ns : List ENode} (h : ¬ 64 < d) (h1 : pk T a ≠ [45]) (h2 : pk T a ≠ [40]) (hk : kd T a = 2) (hq : pk T (a + 1) = [40]) : prs T (n + 1) .fac d a ns = prs T n (.args (tx T a) []) (d + 1) (a + 2) ns := by rw [prs, if_neg h, if_neg h1, if_neg h2, if_neg (by rw [hk]; decide), if_pos hk, if_pos hq]
theorem prs_facV {T : List ETok} {n d a : Nat} {ns : List ENode} (h : ¬ 64 < d) (h1 : pk T a ≠ [45]) (h2 : pk T a ≠ [40]) (hk : kd T a = 2) (hq : pk T (a + 1) ≠ [40]) : prs T (n + 1) .fac d a ns = emit T (2, tx T a, 0, []) (a + 1) ns := by rw [prs, if_neg h, if_neg h1, if_neg h2, if_neg (by rw [hk]; decide), if_pos hk, if_neg hq]
theorem prs_facX {T : List ETok} {n d a : Nat} {ns : List ENode} (h : ¬ 64 < d) (h1 : pk T a ≠ [45]) (h2 : pk T a ≠ [40]) (h3 : kd T a ≠ 1) (h4 : kd T a ≠ 2) : prs T (n + 1) .fac d a ns = .bad (of_ T a) := by rw [prs, if_neg h, if_neg h1, if_neg h2, if_neg h3, if_neg h4]
set_option maxHeartbeats 8000000 in
theorem S_fac0 {B base : Nat} {TA : Option Addr} {tc : Nat} {Ts : List ETok} {AA : Option Addr} {ac : Nat} {as_ : List EAssign} {n : Nat} (hk : TokK Ts) (ih : SPc B base TA tc Ts AA ac as_ n) {d a : Nat} {X : List Nat} {NA : Option Addr} {nc : Nat} {ns : List ENode} (w : World)
    (h : SpSt w B base TA tc Ts AA ac as_ X a NA nc ns (-1)) (ha : a < Ts.length) (hd : d ≤ 65) (hn : 1 + 4 * (Ts.length - a) ≤ n + 1) (h64 : 64 < d) :
    Calls Tryz.prog 105 #[.pointer (some ⟨B, 0, none⟩), .int .i64 d] w (PGo B base TA tc Ts AA ac as_ X NA (prs Ts (n + 1) .fac d a ns) w) := by
  rw [prs_fac0 h64]
  have HFL := Lib.hid (S_l13Fail w h ha)
  have HS := Lib.hid h
  have h64' : (64 : Int) < d := by omega
  clear h h64 ih
  go_enter Tryz.func105, Tryz.ntmps105
  go_wp2_with fail
  refine HFL.out.mono ?_
  rintro e w2 ⟨rfl, rfl⟩
  go_wp2_with fail
  go_ret
  exact ⟨0, _, _, _, _, rfl, (HS.out.setBad _).1.drew, hk.off _, ((Only.refl _ _ _).setCell (by simp) _).drew⟩
set_option maxHeartbeats 8000000 in
theorem S_facM {B base : Nat} {TA : Option Addr} {tc : Nat} {Ts : List ETok} {AA : Option Addr} {ac : Nat} {as_ : List EAssign} {n : Nat} (hk : TokK Ts) (ih : SPc B base TA tc Ts AA ac as_ n) {d a : Nat} {X : List Nat} {NA : Option Addr} {nc : Nat} {ns : List ENode} (w : World)
    (h : SpSt w B base TA tc Ts AA ac as_ X a NA nc ns (-1)) (ha : a < Ts.length) (hd : d ≤ 65) (hn : 1 + 4 * (Ts.length - a) ≤ n + 1) (h64 : ¬ 64 < d) (hp : pk Ts a = [45]) :
    Calls Tryz.prog 105 #[.pointer (some ⟨B, 0, none⟩), .int .i64 d] w (PGo B base TA tc Ts AA ac as_ X NA (prs Ts (n + 1) .fac d a ns) w) := by
  have hlen := hk.len
  have HPK : Hid (∀ (wx : World) (a1 : Nat) (NA1 : Option Addr) (nc1 : Nat) (n1 : List ENode), SpSt wx B base TA tc Ts AA ac as_ X a1 NA1 nc1 n1 (-1) → a1 < Ts.length → Calls Tryz.prog 59 #[.pointer (some ⟨B, 0, none⟩)] wx fun e w' => e = .returned (str (pk Ts a1)) ∧ Below wx.heap.size wx w') := Lib.hid (fun wx a1 NA1 nc1 n1 hx h1 => S_l13Peek wx hx h1)
  have HFL : Hid (∀ (wx : World) (a1 : Nat) (NA1 : Option Addr) (nc1 : Nat) (n1 : List ENode), SpSt wx B base TA tc Ts AA ac as_ X a1 NA1 nc1 n1 (-1) → a1 < Ts.length → Calls Tryz.prog 28 #[.pointer (some ⟨B, 0, none⟩)] wx fun e w' => e = .returned (.int .i64 0) ∧ w' = (wx.setCell ⟨B, 4, none⟩ (.int .i64 (of_ Ts a1))).drew) := Lib.hid (fun wx a1 NA1 nc1 n1 hx h1 => S_l13Fail wx hx h1)
  obtain ⟨hB, h0, h1, _, _, _, _⟩ := h.cells
  obtain ⟨ht1, ht2, b, o, rfl, hb, hbB, t0, t1, t2, t3⟩ := h.2.tokAt ha
  have HS := Lib.hid h
  unfold maxLen at ht2
  have ha' : (a : Int) < Ts.length := by omega
  have hd' : ¬ (64 : Int) < d := by omega
  have hBw : ¬ B = w.heap.size := by omega
  have hin := pk_in hk.ok ha (by rw [hp]; simp)
  have hE := prs_ends hk.ok n .fac (d + 1) (a + 1) ns hin (by show 1 + _ ≤ n; omega)
  have HP1 : Hid (∀ wx, SpSt wx B base (some ⟨b, o, none⟩) tc Ts AA ac as_ X a NA nc ns (-1) → Calls Tryz.prog 59 #[.pointer (some ⟨B, 0, none⟩)] wx fun e w' => e = .returned (.string ⟨#[45]⟩) ∧ Below wx.heap.size wx w') := Lib.hid (fun wx hx => by have := HPK.out wx a NA nc ns hx ha; rw [hp] at this; exact this)
  have HFA : Hid (∀ wx, SpSt wx B base (some ⟨b, o, none⟩) tc Ts AA ac as_ X (a + 1) NA nc ns (-1) → Calls Tryz.prog 105 #[.pointer (some ⟨B, 0, none⟩), .int .i64 ((d : Int) + 1)] wx (PGo B base (some ⟨b, o, none⟩) tc Ts AA ac as_ X NA (prs Ts n .fac (d + 1) (a + 1) ns) wx)) := Lib.hid (fun wx hx => by have := ih.fac (d + 1) (a + 1) X NA nc ns wx hx hin (by omega) (by omega); simpa using this)
  have hR0 := prs_facM (n := n) (ns := ns) h64 hp
  obtain ⟨R, hRR⟩ : ∃ R, prs Ts (n + 1) .fac d a ns = R := ⟨_, rfl⟩
  rw [hRR] at hR0 ⊢
  have HR := Lib.hid hR0
  clear hR0 hRR
  generalize kd Ts a = k at *
  generalize tx Ts a = x at *
  generalize nm Ts a = m at *
  generalize of_ Ts a = f at *
  clear h HPK HFL hp
  go_enter Tryz.func105, Tryz.ntmps105
  go_wp2_with fail
  go_region_held3 (fun w' => w'.cell? ⟨B, 0, none⟩ = some (.slice (some ⟨b, o, none⟩) Ts.length tc) ∧ w'.cell? ⟨B, 1, none⟩ = some (.int .i64 a) ∧ w'.cell? ⟨b, o + a * 4, none⟩ = some (.int .i64 k) ∧ w'.cell? ⟨b, o + a * 4 + 1, none⟩ = some (str x) ∧ w'.cell? ⟨b, o + a * 4 + 2, none⟩ = some (.int .i64 m) ∧ w'.cell? ⟨b, o + a * 4 + 3, none⟩ = some (.int .i64 f))
    (first | ((try dsimp only); refine ⟨?_, ?_, ?_, ?_, ?_, ?_⟩ <;> (go_simp; done)) | go_keep)
    (fail)
  have HS1 : Hid (SpSt (World.drew (w.alloc (.cells #[.int .i64 k, str x, .int .i64 m, .int .i64 f] 74))) B base (some ⟨b, o, none⟩) tc Ts AA ac as_ X a NA nc ns (-1)) := Lib.hid (SpSt.drew (SpSt.alloc HS.out _))
  have HX1 : Hid (Box (World.drew (w.alloc (.cells #[.int .i64 k, str x, .int .i64 m, .int .i64 f] 74))) w.heap.size [.int .i64 k, str x, .int .i64 m, .int .i64 f]) := Lib.hid (Box.of_own (Own.drew (Own.new w 74 #[.int .i64 k, str x, .int .i64 m, .int .i64 f])))
  have HO1 : Hid (Only w.heap.size (B :: gOf NA) w (World.drew (w.alloc (.cells #[.int .i64 k, str x, .int .i64 m, .int .i64 f] 74)))) := Lib.hid ((Only.refl _ _ _).al (Nat.le_refl _) _).drew
  generalize World.drew (w.alloc (.cells #[.int .i64 k, str x, .int .i64 m, .int .i64 f] 74)) = w1 at *
  clear t0 t1 t2 t3 h0 h1
  go_wp2_with fail
  refine (HP1.out _ HS1.out).mono ?_
  rintro e w2 ⟨rfl, hb2⟩
  have HS2 := Lib.hid (HS1.out.step hb2)
  have HX2 := Lib.hid (HX1.out.step hb2)
  have HO2 : Hid (Only w.heap.size (B :: gOf NA) w w2) := Lib.hid (HO1.out.sub (Only.of_below hb2 []) HO1.out.size (fun x hx => by cases hx))
  clear hb2
  obtain ⟨dB2, _, d12, _, _, d42, df2⟩ := HS2.out.cells
  have HSA : Hid (SpSt (w2.setCell ⟨B, 1, none⟩ (.int .i64 ((a : Int) + 1))) B base (some ⟨b, o, none⟩) tc Ts AA ac as_ X (a + 1) NA nc ns (-1)) := Lib.hid (by have := HS2.out.setAt (a + 1); simpa using this)
  have HOA : Hid (Only w.heap.size (B :: gOf NA) w (w2.setCell ⟨B, 1, none⟩ (.int .i64 ((a : Int) + 1)))) := Lib.hid (HO2.out.setCell (by simp) _)
  clear ih
  cases hr : prs Ts n .fac (d + 1) (a + 1) ns with
  | out => exact absurd hr hE.1
  | bad q =>
    rw [hr] at HFA
    have hb := HR.out
    rw [hr] at hb
    (try dsimp only at hb)
    subst hb
    clear hr hE HR
    go_wp2_with fail
    refine (HFA.out _ HSA.out).mono ?_
    rintro e w3 hg
    have HG := Lib.hid (hg.comp HOA.out (fun x hx => .inl hx))
    obtain ⟨r, b0, b1, b2, b3, rfl, hw3, hq3, hO3⟩ := hg
    have g4 := hw3.cell 4
    (try dsimp only [List.getElem?_cons_succ, List.getElem?_cons_zero] at g4)
    have HW3 := Lib.hid hw3
    clear hw3 hO3
    go_wp2_with fail
    go_ret
    obtain ⟨_, _, _, _, _, _, _, _, hOO⟩ := HG.out
    exact ⟨0, b0, b1, b2, b3, rfl, HW3.out, hq3, hOO⟩
  | ok v a1 n1 =>
    rw [hr] at HFA
    have h6 : a + 1 + 1 ≤ a1 ∧ a1 < Ts.length := hE.2 v a1 n1 hr
    have HEM : Hid (∀ (wx : World) (NA2 : Option Addr) (nc2 : Nat), SpSt wx B base (some ⟨b, o, none⟩) tc Ts AA ac as_ X a1 NA2 nc2 n1 (-1) → Calls Tryz.prog 89 #[.pointer (some ⟨B, 0, none⟩), nodeV 3 [] 0 (.slice (some ⟨wx.heap.size, 0, none⟩) 1 1)] (wx.alloc (.cells #[.int .i64 v] 3)) (PGo B base (some ⟨b, o, none⟩) tc Ts AA ac as_ X NA2 (emit Ts (3, [], 0, [v]) a1 n1) (wx.alloc (.cells #[.int .i64 v] 3)))) := Lib.hid (fun wx NA2 nc2 hx =>
      S_l13Emit (args := [v]) _ (hx.fresh_ _) (by omega) h6.2 hlen hk.off (OwnS.some_ (Own.new wx 3 #[.int .i64 v]) rfl (by simp)) (fun y hy => by
        obtain rfl : y = wx.heap.size := by simpa [gOf] using hy
        exact fun q => by have := (hx.2.xlt _ q).1; omega))
    have hb := HR.out
    rw [hr] at hb
    (try dsimp only at hb)
    rw [← hb] at HEM
    clear hr hE hb HR
    go_wp2_with fail
    refine (HFA.out _ HSA.out).mono ?_
    rintro e w3 ⟨NA3, nc3, rfl, hs3, hO3, hS3⟩
    have g4 := hs3.cells.2.2.2.2.2.1
    have HS3 := Lib.hid hs3
    have HOS := Lib.hid (PGo.after HOA.out (fun x hx => .inl hx) hO3 hS3 (.cells #[.int .i64 v] 3))
    clear hs3 hO3 hS3
    go_wp2_with fail
    refine (HEM.out _ _ _ HS3.out).mono ?_
    rintro e w4 hg
    obtain ⟨v4, rfl⟩ := hg.ret
    have HG := Lib.hid (hg.comp HOS.out.1 HOS.out.2)
    clear hg
    go_wp2_with fail
    go_ret
    exact HG.out
set_option maxHeartbeats 8000000 in
theorem S_facP {B base : Nat} {TA : Option Addr} {tc : Nat} {Ts : List ETok} {AA : Option Addr} {ac : Nat} {as_ : List EAssign} {n : Nat} (hk : TokK Ts) (ih : SPc B base TA tc Ts AA ac as_ n) {d a : Nat} {X : List Nat} {NA : Option Addr} {nc : Nat} {ns : List ENode} (w : World)
    (h : SpSt w B base TA tc Ts AA ac as_ X a NA nc ns (-1)) (ha : a < Ts.length) (hd : d ≤ 65) (hn : 1 + 4 * (Ts.length - a) ≤ n + 1) (h64 : ¬ 64 < d) (hp : pk Ts a = [40]) :
    Calls Tryz.prog 105 #[.pointer (some ⟨B, 0, none⟩), .int .i64 d] w (PGo B base TA tc Ts AA ac as_ X NA (prs Ts (n + 1) .fac d a ns) w) := by
  have hlen := hk.len
  have HPK : Hid (∀ (wx : World) (a1 : Nat) (NA1 : Option Addr) (nc1 : Nat) (n1 : List ENode), SpSt wx B base TA tc Ts AA ac as_ X a1 NA1 nc1 n1 (-1) → a1 < Ts.length → Calls Tryz.prog 59 #[.pointer (some ⟨B, 0, none⟩)] wx fun e w' => e = .returned (str (pk Ts a1)) ∧ Below wx.heap.size wx w') := Lib.hid (fun wx a1 NA1 nc1 n1 hx h1 => S_l13Peek wx hx h1)
  have HFL : Hid (∀ (wx : World) (a1 : Nat) (NA1 : Option Addr) (nc1 : Nat) (n1 : List ENode), SpSt wx B base TA tc Ts AA ac as_ X a1 NA1 nc1 n1 (-1) → a1 < Ts.length → Calls Tryz.prog 28 #[.pointer (some ⟨B, 0, none⟩)] wx fun e w' => e = .returned (.int .i64 0) ∧ w' = (wx.setCell ⟨B, 4, none⟩ (.int .i64 (of_ Ts a1))).drew) := Lib.hid (fun wx a1 NA1 nc1 n1 hx h1 => S_l13Fail wx hx h1)
  obtain ⟨hB, h0, h1, _, _, _, _⟩ := h.cells
  obtain ⟨ht1, ht2, b, o, rfl, hb, hbB, t0, t1, t2, t3⟩ := h.2.tokAt ha
  have HS := Lib.hid h
  unfold maxLen at ht2
  have ha' : (a : Int) < Ts.length := by omega
  have hd' : ¬ (64 : Int) < d := by omega
  have hBw : ¬ B = w.heap.size := by omega
  have hin := pk_in hk.ok ha (by rw [hp]; simp)
  have hE := prs_ends hk.ok n (.bin true) (d + 1) (a + 1) ns hin (by show 3 + _ ≤ n; omega)
  have HP1 : Hid (∀ wx, SpSt wx B base (some ⟨b, o, none⟩) tc Ts AA ac as_ X a NA nc ns (-1) → Calls Tryz.prog 59 #[.pointer (some ⟨B, 0, none⟩)] wx fun e w' => e = .returned (.string ⟨#[40]⟩) ∧ Below wx.heap.size wx w') := Lib.hid (fun wx hx => by have := HPK.out wx a NA nc ns hx ha; rw [hp] at this; exact this)
  have HXP : Hid (∀ (wx : World) (a1 : Nat) (NA1 : Option Addr) (nc1 : Nat) (n1 : List ENode), SpSt wx B base (some ⟨b, o, none⟩) tc Ts AA ac as_ X a1 NA1 nc1 n1 (-1) → a1 < Ts.length → Calls Tryz.prog 29 #[.pointer (some ⟨B, 0, none⟩), .string ⟨#[41]⟩] wx (PExp B base (some ⟨b, o, none⟩) tc Ts AA ac as_ X a1 NA1 nc1 n1 (decide (pk Ts a1 = [41])) wx)) := Lib.hid (fun wx a1 NA1 nc1 n1 hx h1 => S_l13Expect [41] wx hx h1 hlen)
  have HEX : Hid (∀ wx, SpSt wx B base (some ⟨b, o, none⟩) tc Ts AA ac as_ X (a + 1) NA nc ns (-1) → Calls Tryz.prog 30 #[.pointer (some ⟨B, 0, none⟩), .int .i64 ((d : Int) + 1)] wx (PGo B base (some ⟨b, o, none⟩) tc Ts AA ac as_ X NA (prs Ts n (.bin true) (d + 1) (a + 1) ns) wx)) := Lib.hid (fun wx hx => by have := S_l13Expression ih (d := d + 1) wx hx hin (by omega) (by omega); simpa using this)
  have hR0 := prs_facP (n := n) (ns := ns) h64 hp
  obtain ⟨R, hRR⟩ : ∃ R, prs Ts (n + 1) .fac d a ns = R := ⟨_, rfl⟩
  rw [hRR] at hR0 ⊢
  have HR := Lib.hid hR0
  clear hR0 hRR
  generalize kd Ts a = k at *
  generalize tx Ts a = x at *
  generalize nm Ts a = m at *
  generalize of_ Ts a = f at *
  clear h HPK HFL hp
  go_enter Tryz.func105, Tryz.ntmps105
  go_wp2_with fail
  go_region_held3 (fun w' => w'.cell? ⟨B, 0, none⟩ = some (.slice (some ⟨b, o, none⟩) Ts.length tc) ∧ w'.cell? ⟨B, 1, none⟩ = some (.int .i64 a) ∧ w'.cell? ⟨b, o + a * 4, none⟩ = some (.int .i64 k) ∧ w'.cell? ⟨b, o + a * 4 + 1, none⟩ = some (str x) ∧ w'.cell? ⟨b, o + a * 4 + 2, none⟩ = some (.int .i64 m) ∧ w'.cell? ⟨b, o + a * 4 + 3, none⟩ = some (.int .i64 f))
    (first | ((try dsimp only); refine ⟨?_, ?_, ?_, ?_, ?_, ?_⟩ <;> (go_simp; done)) | go_keep)
    (fail)
  have HS1 : Hid (SpSt (World.drew (w.alloc (.cells #[.int .i64 k, str x, .int .i64 m, .int .i64 f] 74))) B base (some ⟨b, o, none⟩) tc Ts AA ac as_ X a NA nc ns (-1)) := Lib.hid (SpSt.drew (SpSt.alloc HS.out _))
  have HX1 : Hid (Box (World.drew (w.alloc (.cells #[.int .i64 k, str x, .int .i64 m, .int .i64 f] 74))) w.heap.size [.int .i64 k, str x, .int .i64 m, .int .i64 f]) := Lib.hid (Box.of_own (Own.drew (Own.new w 74 #[.int .i64 k, str x, .int .i64 m, .int .i64 f])))
  have HO1 : Hid (Only w.heap.size (B :: gOf NA) w (World.drew (w.alloc (.cells #[.int .i64 k, str x, .int .i64 m, .int .i64 f] 74)))) := Lib.hid ((Only.refl _ _ _).al (Nat.le_refl _) _).drew
  generalize World.drew (w.alloc (.cells #[.int .i64 k, str x, .int .i64 m, .int .i64 f] 74)) = w1 at *
  clear t0 t1 t2 t3 h0 h1
  go_wp2_with fail
  refine (HP1.out _ HS1.out).mono ?_
  rintro e w2 ⟨rfl, hb2⟩
  have HS2 := Lib.hid (HS1.out.step hb2)
  have HX2 := Lib.hid (HX1.out.step hb2)
  have HO2 : Hid (Only w.heap.size (B :: gOf NA) w w2) := Lib.hid (HO1.out.sub (Only.of_below hb2 []) HO1.out.size (fun x hx => by cases hx))
  clear hb2
  go_wp2_with fail
  refine (HP1.out _ HS2.out).mono ?_
  rintro e w3 ⟨rfl, hb3⟩
  have HS3 := Lib.hid (HS2.out.step hb3)
  have HX3 := Lib.hid (HX2.out.step hb3)
  have HO3 : Hid (Only w.heap.size (B :: gOf NA) w w3) := Lib.hid (HO2.out.sub (Only.of_below hb3 []) HO2.out.size (fun x hx => by cases hx))
  clear hb3
  obtain ⟨dB3, _, d13, _, _, d43, df3⟩ := HS3.out.cells
  have HSA : Hid (SpSt (w3.setCell ⟨B, 1, none⟩ (.int .i64 ((a : Int) + 1))) B base (some ⟨b, o, none⟩) tc Ts AA ac as_ X (a + 1) NA nc ns (-1)) := Lib.hid (by have := HS3.out.setAt (a + 1); simpa using this)
  have HOA : Hid (Only w.heap.size (B :: gOf NA) w (w3.setCell ⟨B, 1, none⟩ (.int .i64 ((a : Int) + 1)))) := Lib.hid (HO3.out.setCell (by simp) _)
  clear ih
  cases hr : prs Ts n (.bin true) (d + 1) (a + 1) ns with
  | out => exact absurd hr hE.1
  | bad q =>
    rw [hr] at HEX
    have hb := HR.out
    rw [hr] at hb
    (try dsimp only at hb)
    subst hb
    clear hr hE HR
    go_wp2_with fail
    refine (HEX.out _ HSA.out).mono ?_
    rintro e w4 hg
    have HG := Lib.hid (hg.comp HOA.out (fun x hx => .inl hx))
    obtain ⟨r, b0, b1, b2, b3, rfl, hw3, hq3, hO3⟩ := hg
    have g4 := hw3.cell 4
    (try dsimp only [List.getElem?_cons_succ, List.getElem?_cons_zero] at g4)
    have HW3 := Lib.hid hw3
    clear hw3 hO3
    go_wp2_with fail
    go_ret
    obtain ⟨_, _, _, _, _, _, _, _, hOO⟩ := HG.out
    exact ⟨0, b0, b1, b2, b3, rfl, HW3.out, hq3, hOO⟩
  | ok v a1 n1 =>
    rw [hr] at HEX
    have h6 : a + 1 + 1 ≤ a1 ∧ a1 < Ts.length := hE.2 v a1 n1 hr
    have hb := HR.out
    rw [hr] at hb
    (try dsimp only at hb)
    have HB := Lib.hid hb
    clear hr hE HR hb
    go_wp2_with fail
    refine (HEX.out _ HSA.out).mono ?_
    rintro e w4 ⟨NA4, nc4, rfl, hs4, hO4, hS4⟩
    have g4 := hs4.cells.2.2.2.2.2.1
    have HX4 := Lib.hid (HXP.out w4 a1 NA4 nc4 n1 hs4 h6.2)
    have HOS := Lib.hid (PGo.after HOA.out (fun x hx => .inl hx) hO4 hS4 (.cells #[] 3))
    have HO4 : Hid (Only w.heap.size (B :: gOf NA) w w4) := Lib.hid (HOA.out.sub hO4 HOA.out.size (fun x hx => .inl hx))
    clear hs4 hO4 hS4
    by_cases hp41 : pk Ts a1 = [41]
    · have hb := HB.out
      rw [if_pos hp41] at hb
      subst hb
      rw [hp41] at HX4
      clear HXP hp41
      have HX5 : Hid (Calls Tryz.prog 29 #[.pointer (some ⟨B, 0, none⟩), .string ⟨#[41]⟩] w4 (PExp B base (some ⟨b, o, none⟩) tc Ts AA ac as_ X a1 NA4 nc4 n1 true w4)) := Lib.hid HX4.out
      clear HX4
      go_wp2_with fail
      refine HX5.out.mono ?_
      rintro e w5 ⟨rfl, hO5, hs5, _⟩
      have HS5 := Lib.hid (hs5 rfl)
      have HO5 : Hid (Only w.heap.size (B :: gOf NA) w w5) := Lib.hid (HO4.out.sub hO5 HO4.out.size (fun x hx => .inl (by simp at hx; simp [hx])))
      clear hO5 hs5
      go_wp2_with fail
      go_ret
      exact ⟨NA4, nc4, rfl, HS5.out, HO5.out, HOS.out.2⟩
    · have hb := HB.out
      rw [if_neg hp41] at hb
      subst hb
      have hdf : decide (pk Ts a1 = [41]) = false := by simp [hp41]
      rw [hdf] at HX4
      clear HXP hp41 hdf
      go_wp2_with fail
      refine HX4.out.mono ?_
      rintro e w5 ⟨rfl, hO5, _, hs5⟩
      obtain ⟨b0, b1, b2, b3, hw5⟩ := hs5 rfl
      have HW5 := Lib.hid hw5
      have HO5 : Hid (Only w.heap.size (B :: gOf NA) w w5) := Lib.hid (HO4.out.sub hO5 HO4.out.size (fun x hx => .inl (by simp at hx; simp [hx])))
      clear hO5 hs5 hw5
      go_wp2_with fail
      go_ret
      exact ⟨0, b0, b1, b2, b3, rfl, HW5.out, hk.off _, HO5.out⟩
set_option maxHeartbeats 8000000 in
theorem S_facN {B base : Nat} {TA : Option Addr} {tc : Nat} {Ts : List ETok} {AA : Option Addr} {ac : Nat} {as_ : List EAssign} {n : Nat} (hk : TokK Ts) (ih : SPc B base TA tc Ts AA ac as_ n) {d a : Nat} {X : List Nat} {NA : Option Addr} {nc : Nat} {ns : List ENode} (w : World)
    (h : SpSt w B base TA tc Ts AA ac as_ X a NA nc ns (-1)) (ha : a < Ts.length) (hd : d ≤ 65) (hn : 1 + 4 * (Ts.length - a) ≤ n + 1) (h64 : ¬ 64 < d) (h45 : pk Ts a ≠ [45]) (h40 : pk Ts a ≠ [40]) (hk1 : kd Ts a = 1) :
    Calls Tryz.prog 105 #[.pointer (some ⟨B, 0, none⟩), .int .i64 d] w (PGo B base TA tc Ts AA ac as_ X NA (prs Ts (n + 1) .fac d a ns) w) := by
  have hlen := hk.len
  have HPK : Hid (∀ (wx : World) (a1 : Nat) (NA1 : Option Addr) (nc1 : Nat) (n1 : List ENode), SpSt wx B base TA tc Ts AA ac as_ X a1 NA1 nc1 n1 (-1) → a1 < Ts.length → Calls Tryz.prog 59 #[.pointer (some ⟨B, 0, none⟩)] wx fun e w' => e = .returned (str (pk Ts a1)) ∧ Below wx.heap.size wx w') := Lib.hid (fun wx a1 NA1 nc1 n1 hx h1 => S_l13Peek wx hx h1)
  have HFL : Hid (∀ (wx : World) (a1 : Nat) (NA1 : Option Addr) (nc1 : Nat) (n1 : List ENode), SpSt wx B base TA tc Ts AA ac as_ X a1 NA1 nc1 n1 (-1) → a1 < Ts.length → Calls Tryz.prog 28 #[.pointer (some ⟨B, 0, none⟩)] wx fun e w' => e = .returned (.int .i64 0) ∧ w' = (wx.setCell ⟨B, 4, none⟩ (.int .i64 (of_ Ts a1))).drew) := Lib.hid (fun wx a1 NA1 nc1 n1 hx h1 => S_l13Fail wx hx h1)
  obtain ⟨hB, h0, h1, _, _, _, _⟩ := h.cells
  obtain ⟨ht1, ht2, b, o, rfl, hb, hbB, t0, t1, t2, t3⟩ := h.2.tokAt ha
  have HS := Lib.hid h
  unfold maxLen at ht2
  have ha' : (a : Int) < Ts.length := by omega
  have hd' : ¬ (64 : Int) < d := by omega
  have hBw : ¬ B = w.heap.size := by omega
  have e1 : (pk Ts a == [45]) = false := by simpa using h45
  have e2 : (pk Ts a == [40]) = false := by simpa using h40
  have HP1 : Hid (∀ wx, SpSt wx B base (some ⟨b, o, none⟩) tc Ts AA ac as_ X a NA nc ns (-1) → Calls Tryz.prog 59 #[.pointer (some ⟨B, 0, none⟩)] wx fun e w' => e = .returned (str (pk Ts a)) ∧ Below wx.heap.size wx w') := Lib.hid (fun wx hx => HPK.out wx a NA nc ns hx ha)
  have hin := kd_in hk.ok ha (by rw [hk1]; decide)
  have HR := Lib.hid (prs_facN (n := n) (ns := ns) h64 h45 h40 hk1)
  rw [HR.out]
  have HEM : Hid (∀ (wx : World), SpSt wx B base (some ⟨b, o, none⟩) tc Ts AA ac as_ X (a + 1) NA nc ns (-1) → Calls Tryz.prog 89 #[.pointer (some ⟨B, 0, none⟩), nodeV 1 [] (nm Ts a) (.slice none 0 0)] wx (PGo B base (some ⟨b, o, none⟩) tc Ts AA ac as_ X NA (emit Ts (1, [], nm Ts a, []) (a + 1) ns) wx)) := Lib.hid (fun wx hx =>
    S_l13Emit (args := []) (A := none) wx hx (by omega) hin hlen hk.off (OwnS.none_ _ _ _) (fun y hy => by simp [gOf] at hy))
  have HKD := Lib.hid hk1
  rw [hk1] at t0
  clear hk1 h45 h40
  have hk1 : (1 : Int) = 1 := rfl
  obtain ⟨k, hkk⟩ : ∃ k : Int, k = 1 := ⟨1, rfl⟩
  rw [← hkk] at t0
  have HKK := Lib.hid hkk
  clear hkk
  generalize emit Ts (1, [], nm Ts a, []) (a + 1) ns = r at *
  generalize tx Ts a = x at *
  generalize nm Ts a = m at *
  generalize of_ Ts a = f at *
  generalize pk Ts a = y at *
  clear h HPK HFL HR ih HKD
  go_enter Tryz.func105, Tryz.ntmps105
  go_wp2_with fail
  go_region_held3 (fun w' => w'.cell? ⟨B, 0, none⟩ = some (.slice (some ⟨b, o, none⟩) Ts.length tc) ∧ w'.cell? ⟨B, 1, none⟩ = some (.int .i64 a) ∧ w'.cell? ⟨b, o + a * 4, none⟩ = some (.int .i64 k) ∧ w'.cell? ⟨b, o + a * 4 + 1, none⟩ = some (str x) ∧ w'.cell? ⟨b, o + a * 4 + 2, none⟩ = some (.int .i64 m) ∧ w'.cell? ⟨b, o + a * 4 + 3, none⟩ = some (.int .i64 f))
    (first | ((try dsimp only); refine ⟨?_, ?_, ?_, ?_, ?_, ?_⟩ <;> (go_simp; done)) | go_keep)
    (fail)
  have HS1 : Hid (SpSt (World.drew (w.alloc (.cells #[.int .i64 k, str x, .int .i64 m, .int .i64 f] 74))) B base (some ⟨b, o, none⟩) tc Ts AA ac as_ X a NA nc ns (-1)) := Lib.hid (SpSt.drew (SpSt.alloc HS.out _))
  have HX1 : Hid (Box (World.drew (w.alloc (.cells #[.int .i64 k, str x, .int .i64 m, .int .i64 f] 74))) w.heap.size [.int .i64 k, str x, .int .i64 m, .int .i64 f]) := Lib.hid (Box.of_own (Own.drew (Own.new w 74 #[.int .i64 k, str x, .int .i64 m, .int .i64 f])))
  have HO1 : Hid (Only w.heap.size (B :: gOf NA) w (World.drew (w.alloc (.cells #[.int .i64 k, str x, .int .i64 m, .int .i64 f] 74)))) := Lib.hid ((Only.refl _ _ _).al (Nat.le_refl _) _).drew
  generalize World.drew (w.alloc (.cells #[.int .i64 k, str x, .int .i64 m, .int .i64 f] 74)) = w1 at *
  clear t0 t1 t2 t3 h0 h1
  go_wp2_with fail
  refine (HP1.out _ HS1.out).mono ?_
  rintro e w2 ⟨rfl, hb2⟩
  have HS2 := Lib.hid (HS1.out.step hb2)
  have HX2 := Lib.hid (HX1.out.step hb2)
  have HO2 : Hid (Only w.heap.size (B :: gOf NA) w w2) := Lib.hid (HO1.out.sub (Only.of_below hb2 []) HO1.out.size (fun x hx => by cases hx))
  clear hb2
  go_wp2_with fail
  refine (HP1.out _ HS2.out).mono ?_
  rintro e w3 ⟨rfl, hb3⟩
  have HS3 := Lib.hid (HS2.out.step hb3)
  have HX3 := Lib.hid (HX2.out.step hb3)
  have HO3 : Hid (Only w.heap.size (B :: gOf NA) w w3) := Lib.hid (HO2.out.sub (Only.of_below hb3 []) HO2.out.size (fun x hx => by cases hx))
  clear hb3
  obtain ⟨dB3, _, d13, _, _, d43, df3⟩ := HS3.out.cells
  obtain ⟨xz3, x03, x13, x23, x33⟩ := HX3.out.open4
  have hBx3 : ¬ w.heap.size = B := by omega
  have HSA : Hid (SpSt (w3.setCell ⟨B, 1, none⟩ (.int .i64 ((a : Int) + 1))) B base (some ⟨b, o, none⟩) tc Ts AA ac as_ X (a + 1) NA nc ns (-1)) := Lib.hid (by have := HS3.out.setAt (a + 1); simpa using this)
  have HOA : Hid (Only w.heap.size (B :: gOf NA) w (w3.setCell ⟨B, 1, none⟩ (.int .i64 ((a : Int) + 1)))) := Lib.hid (HO3.out.setCell (by simp) _)
  obtain rfl := HKK.out
  go_wp2_with fail
  refine (HEM.out _ HSA.out).mono ?_
  rintro e w4 hg
  obtain ⟨v4, rfl⟩ := hg.ret
  have HG := Lib.hid (hg.comp HOA.out (fun x hx => .inl hx))
  clear hg
  go_wp2_with fail
  go_ret
  exact HG.out
set_option maxHeartbeats 8000000 in
theorem S_facC {B base : Nat} {TA : Option Addr} {tc : Nat} {Ts : List ETok} {AA : Option Addr} {ac : Nat} {as_ : List EAssign} {n : Nat} (hk : TokK Ts) (ih : SPc B base TA tc Ts AA ac as_ n) {d a : Nat} {X : List Nat} {NA : Option Addr} {nc : Nat} {ns : List ENode} (w : World)
    (h : SpSt w B base TA tc Ts AA ac as_ X a NA nc ns (-1)) (ha : a < Ts.length) (hd : d ≤ 65) (hn : 1 + 4 * (Ts.length - a) ≤ n + 1) (h64 : ¬ 64 < d) (h45 : pk Ts a ≠ [45]) (h40 : pk Ts a ≠ [40]) (hk1 : kd Ts a = 2) (hq : pk Ts (a + 1) = [40]) :
    Calls Tryz.prog 105 #[.pointer (some ⟨B, 0, none⟩), .int .i64 d] w (PGo B base TA tc Ts AA ac as_ X NA (prs Ts (n + 1) .fac d a ns) w) := by
  have hlen := hk.len
  have HPK : Hid (∀ (wx : World) (a1 : Nat) (NA1 : Option Addr) (nc1 : Nat) (n1 : List ENode), SpSt wx B base TA tc Ts AA ac as_ X a1 NA1 nc1 n1 (-1) → a1 < Ts.length → Calls Tryz.prog 59 #[.pointer (some ⟨B, 0, none⟩)] wx fun e w' => e = .returned (str (pk Ts a1)) ∧ Below wx.heap.size wx w') := Lib.hid (fun wx a1 NA1 nc1 n1 hx h1 => S_l13Peek wx hx h1)
  have HFL : Hid (∀ (wx : World) (a1 : Nat) (NA1 : Option Addr) (nc1 : Nat) (n1 : List ENode), SpSt wx B base TA tc Ts AA ac as_ X a1 NA1 nc1 n1 (-1) → a1 < Ts.length → Calls Tryz.prog 28 #[.pointer (some ⟨B, 0, none⟩)] wx fun e w' => e = .returned (.int .i64 0) ∧ w' = (wx.setCell ⟨B, 4, none⟩ (.int .i64 (of_ Ts a1))).drew) := Lib.hid (fun wx a1 NA1 nc1 n1 hx h1 => S_l13Fail wx hx h1)
  obtain ⟨hB, h0, h1, _, _, _, _⟩ := h.cells
  obtain ⟨ht1, ht2, b, o, rfl, hb, hbB, t0, t1, t2, t3⟩ := h.2.tokAt ha
  have HS := Lib.hid h
  unfold maxLen at ht2
  have ha' : (a : Int) < Ts.length := by omega
  have hd' : ¬ (64 : Int) < d := by omega
  have hBw : ¬ B = w.heap.size := by omega
  have e1 : (pk Ts a == [45]) = false := by simpa using h45
  have e2 : (pk Ts a == [40]) = false := by simpa using h40
  have HP1 : Hid (∀ wx, SpSt wx B base (some ⟨b, o, none⟩) tc Ts AA ac as_ X a NA nc ns (-1) → Calls Tryz.prog 59 #[.pointer (some ⟨B, 0, none⟩)] wx fun e w' => e = .returned (str (pk Ts a)) ∧ Below wx.heap.size wx w') := Lib.hid (fun wx hx => HPK.out wx a NA nc ns hx ha)
  have hin := kd_in hk.ok ha (by rw [hk1]; decide)
  have hin2 := pk_in hk.ok hin (by rw [hq]; simp)
  have HP2 : Hid (∀ wx, SpSt wx B base (some ⟨b, o, none⟩) tc Ts AA ac as_ X (a + 1) NA nc ns (-1) → Calls Tryz.prog 59 #[.pointer (some ⟨B, 0, none⟩)] wx fun e w' => e = .returned (.string ⟨#[40]⟩) ∧ Below wx.heap.size wx w') := Lib.hid (fun wx hx => by have := HPK.out wx (a + 1) NA nc ns hx hin; rw [hq] at this; exact this)
  have HR := Lib.hid (prs_facC (n := n) (ns := ns) h64 h45 h40 hk1 hq)
  rw [HR.out]
  have HCL : Hid (∀ (wx : World), SpSt wx B base (some ⟨b, o, none⟩) tc Ts AA ac as_ X (a + 2) NA nc ns (-1) → Calls Tryz.prog 114 #[.pointer (some ⟨B, 0, none⟩), str (tx Ts a), .int .i64 ((d : Int) + 1)] wx (PGo B base (some ⟨b, o, none⟩) tc Ts AA ac as_ X NA (prs Ts n (.args (tx Ts a) []) (d + 1) (a + 2) ns) wx)) := Lib.hid (fun wx hx => by have := ih.cal (tx Ts a) (d + 1) (a + 2) X NA nc ns wx hx hin2 (by omega) (by omega); simpa using this)
  generalize prs Ts n (.args (tx Ts a) []) (d + 1) (a + 2) ns = r at *
  clear hq
  rw [hk1] at t0
  clear hk1 h45 h40
  obtain ⟨k, hkk⟩ : ∃ k : Int, k = 2 := ⟨2, rfl⟩
  rw [← hkk] at t0
  have HKK := Lib.hid hkk
  clear hkk
  generalize tx Ts a = x at *
  generalize nm Ts a = m at *
  generalize of_ Ts a = f at *
  generalize pk Ts a = y at *
  clear h HPK HFL HR ih
  go_enter Tryz.func105, Tryz.ntmps105
  go_wp2_with fail
  go_region_held3 (fun w' => w'.cell? ⟨B, 0, none⟩ = some (.slice (some ⟨b, o, none⟩) Ts.length tc) ∧ w'.cell? ⟨B, 1, none⟩ = some (.int .i64 a) ∧ w'.cell? ⟨b, o + a * 4, none⟩ = some (.int .i64 k) ∧ w'.cell? ⟨b, o + a * 4 + 1, none⟩ = some (str x) ∧ w'.cell? ⟨b, o + a * 4 + 2, none⟩ = some (.int .i64 m) ∧ w'.cell? ⟨b, o + a * 4 + 3, none⟩ = some (.int .i64 f))
    (first | ((try dsimp only); refine ⟨?_, ?_, ?_, ?_, ?_, ?_⟩ <;> (go_simp; done)) | go_keep)
    (fail)
  have HS1 : Hid (SpSt (World.drew (w.alloc (.cells #[.int .i64 k, str x, .int .i64 m, .int .i64 f] 74))) B base (some ⟨b, o, none⟩) tc Ts AA ac as_ X a NA nc ns (-1)) := Lib.hid (SpSt.drew (SpSt.alloc HS.out _))
  have HX1 : Hid (Box (World.drew (w.alloc (.cells #[.int .i64 k, str x, .int .i64 m, .int .i64 f] 74))) w.heap.size [.int .i64 k, str x, .int .i64 m, .int .i64 f]) := Lib.hid (Box.of_own (Own.drew (Own.new w 74 #[.int .i64 k, str x, .int .i64 m, .int .i64 f])))
  have HO1 : Hid (Only w.heap.size (B :: gOf NA) w (World.drew (w.alloc (.cells #[.int .i64 k, str x, .int .i64 m, .int .i64 f] 74)))) := Lib.hid ((Only.refl _ _ _).al (Nat.le_refl _) _).drew
  generalize World.drew (w.alloc (.cells #[.int .i64 k, str x, .int .i64 m, .int .i64 f] 74)) = w1 at *
  clear t0 t1 t2 t3 h0 h1
  go_wp2_with fail
  refine (HP1.out _ HS1.out).mono ?_
  rintro e w2 ⟨rfl, hb2⟩
  have HS2 := Lib.hid (HS1.out.step hb2)
  have HX2 := Lib.hid (HX1.out.step hb2)
  have HO2 : Hid (Only w.heap.size (B :: gOf NA) w w2) := Lib.hid (HO1.out.sub (Only.of_below hb2 []) HO1.out.size (fun x hx => by cases hx))
  clear hb2
  go_wp2_with fail
  refine (HP1.out _ HS2.out).mono ?_
  rintro e w3 ⟨rfl, hb3⟩
  have HS3 := Lib.hid (HS2.out.step hb3)
  have HX3 := Lib.hid (HX2.out.step hb3)
  have HO3 : Hid (Only w.heap.size (B :: gOf NA) w w3) := Lib.hid (HO2.out.sub (Only.of_below hb3 []) HO2.out.size (fun x hx => by cases hx))
  clear hb3
  obtain ⟨dB3, _, d13, _, _, d43, df3⟩ := HS3.out.cells
  obtain ⟨xz3, x03, x13, x23, x33⟩ := HX3.out.open4
  have hBx3 : ¬ w.heap.size = B := by omega
  have HSA : Hid (SpSt (w3.setCell ⟨B, 1, none⟩ (.int .i64 ((a : Int) + 1))) B base (some ⟨b, o, none⟩) tc Ts AA ac as_ X (a + 1) NA nc ns (-1)) := Lib.hid (by have := HS3.out.setAt (a + 1); simpa using this)
  have HOA : Hid (Only w.heap.size (B :: gOf NA) w (w3.setCell ⟨B, 1, none⟩ (.int .i64 ((a : Int) + 1)))) := Lib.hid (HO3.out.setCell (by simp) _)
  have HXA : Hid (Box (w3.setCell ⟨B, 1, none⟩ (.int .i64 ((a : Int) + 1))) w.heap.size [.int .i64 k, str x, .int .i64 m, .int .i64 f]) := Lib.hid (by refine Box.mk4 (by simpa using HX3.out.1) ?_ ?_ ?_ ?_ <;> (go_simp; done))
  obtain rfl := HKK.out
  go_wp2_with fail
  refine (HP2.out _ HSA.out).mono ?_
  rintro e w4 ⟨rfl, hb4⟩
  have HS4 := Lib.hid (HSA.out.step hb4)
  have HX4 := Lib.hid (HXA.out.step hb4)
  have HO4 : Hid (Only w.heap.size (B :: gOf NA) w w4) := Lib.hid (HOA.out.sub (Only.of_below hb4 []) HOA.out.size (fun x hx => by cases hx))
  clear hb4 x03 x13 x23 x33 d13 d43 df3
  obtain ⟨dB4, _, d14, _, _, d44, df4⟩ := HS4.out.cells
  obtain ⟨xz4, x04, x14, x24, x34⟩ := HX4.out.open4
  have hBx4 : ¬ w.heap.size = B := by omega
  have HSB : Hid (SpSt (w4.setCell ⟨B, 1, none⟩ (.int .i64 ((a : Int) + 1 + 1))) B base (some ⟨b, o, none⟩) tc Ts AA ac as_ X (a + 2) NA nc ns (-1)) := Lib.hid (by have := HS4.out.setAt (a + 2); rw [show ((a + 2 : Nat) : Int) = (a : Int) + 1 + 1 by omega] at this; exact this)
  have HOB : Hid (Only w.heap.size (B :: gOf NA) w (w4.setCell ⟨B, 1, none⟩ (.int .i64 ((a : Int) + 1 + 1)))) := Lib.hid (HO4.out.setCell (by simp) _)
  rw [show ((a + 1 : Nat) : Int) = (a : Int) + 1 by omega] at d14
  have haw : IntKind.i64.wrap ((a : Int) + 1 + 1) = (a : Int) + 1 + 1 := IntWalk.i64_in _ (by omega)
  go_wp2_with fail
  refine (HCL.out _ HSB.out).mono ?_
  rintro e w5 hg
  obtain ⟨v5, rfl⟩ := hg.ret
  have HG := Lib.hid (hg.comp HOB.out (fun x hx => .inl hx))
  clear hg
  go_wp2_with fail
  go_ret
  exact HG.out
set_option maxHeartbeats 8000000 in
theorem S_facV {B base : Nat} {TA : Option Addr} {tc : Nat} {Ts : List ETok} {AA : Option Addr} {ac : Nat} {as_ : List EAssign} {n : Nat} (hk : TokK Ts) (ih : SPc B base TA tc Ts AA ac as_ n) {d a : Nat} {X : List Nat} {NA : Option Addr} {nc : Nat} {ns : List ENode} (w : World)
    (h : SpSt w B base TA tc Ts AA ac as_ X a NA nc ns (-1)) (ha : a < Ts.length) (hd : d ≤ 65) (hn : 1 + 4 * (Ts.length - a) ≤ n + 1) (h64 : ¬ 64 < d) (h45 : pk Ts a ≠ [45]) (h40 : pk Ts a ≠ [40]) (hk1 : kd Ts a = 2) (hq : pk Ts (a + 1) ≠ [40]) :
    Calls Tryz.prog 105 #[.pointer (some ⟨B, 0, none⟩), .int .i64 d] w (PGo B base TA tc Ts AA ac as_ X NA (prs Ts (n + 1) .fac d a ns) w) := by
  have hlen := hk.len
  have HPK : Hid (∀ (wx : World) (a1 : Nat) (NA1 : Option Addr) (nc1 : Nat) (n1 : List ENode), SpSt wx B base TA tc Ts AA ac as_ X a1 NA1 nc1 n1 (-1) → a1 < Ts.length → Calls Tryz.prog 59 #[.pointer (some ⟨B, 0, none⟩)] wx fun e w' => e = .returned (str (pk Ts a1)) ∧ Below wx.heap.size wx w') := Lib.hid (fun wx a1 NA1 nc1 n1 hx h1 => S_l13Peek wx hx h1)
  have HFL : Hid (∀ (wx : World) (a1 : Nat) (NA1 : Option Addr) (nc1 : Nat) (n1 : List ENode), SpSt wx B base TA tc Ts AA ac as_ X a1 NA1 nc1 n1 (-1) → a1 < Ts.length → Calls Tryz.prog 28 #[.pointer (some ⟨B, 0, none⟩)] wx fun e w' => e = .returned (.int .i64 0) ∧ w' = (wx.setCell ⟨B, 4, none⟩ (.int .i64 (of_ Ts a1))).drew) := Lib.hid (fun wx a1 NA1 nc1 n1 hx h1 => S_l13Fail wx hx h1)
  obtain ⟨hB, h0, h1, _, _, _, _⟩ := h.cells
  obtain ⟨ht1, ht2, b, o, rfl, hb, hbB, t0, t1, t2, t3⟩ := h.2.tokAt ha
  have HS := Lib.hid h
  unfold maxLen at ht2
  have ha' : (a : Int) < Ts.length := by omega
  have hd' : ¬ (64 : Int) < d := by omega
  have hBw : ¬ B = w.heap.size := by omega
  have e1 : (pk Ts a == [45]) = false := by simpa using h45
  have e2 : (pk Ts a == [40]) = false := by simpa using h40
  have HP1 : Hid (∀ wx, SpSt wx B base (some ⟨b, o, none⟩) tc Ts AA ac as_ X a NA nc ns (-1) → Calls Tryz.prog 59 #[.pointer (some ⟨B, 0, none⟩)] wx fun e w' => e = .returned (str (pk Ts a)) ∧ Below wx.heap.size wx w') := Lib.hid (fun wx hx => HPK.out wx a NA nc ns hx ha)
  have hin := kd_in hk.ok ha (by rw [hk1]; decide)
  have e3 : (pk Ts (a + 1) == [40]) = false := by simpa using hq
  have HP2 : Hid (∀ wx, SpSt wx B base (some ⟨b, o, none⟩) tc Ts AA ac as_ X (a + 1) NA nc ns (-1) → Calls Tryz.prog 59 #[.pointer (some ⟨B, 0, none⟩)] wx fun e w' => e = .returned (str (pk Ts (a + 1))) ∧ Below wx.heap.size wx w') := Lib.hid (fun wx hx => HPK.out wx (a + 1) NA nc ns hx hin)
  have HR := Lib.hid (prs_facV (n := n) (ns := ns) h64 h45 h40 hk1 hq)
  rw [HR.out]
  have HEM : Hid (∀ (wx : World), SpSt wx B base (some ⟨b, o, none⟩) tc Ts AA ac as_ X (a + 1) NA nc ns (-1) → Calls Tryz.prog 89 #[.pointer (some ⟨B, 0, none⟩), nodeV 2 (tx Ts a) 0 (.slice none 0 0)] wx (PGo B base (some ⟨b, o, none⟩) tc Ts AA ac as_ X NA (emit Ts (2, tx Ts a, 0, []) (a + 1) ns) wx)) := Lib.hid (fun wx hx =>
    S_l13Emit (args := []) (A := none) wx hx (by omega) hin hlen hk.off (OwnS.none_ _ _ _) (fun y hy => by simp [gOf] at hy))
  generalize emit Ts (2, tx Ts a, 0, []) (a + 1) ns = r at *
  generalize pk Ts (a + 1) = y2 at *
  clear hq
  rw [hk1] at t0
  clear hk1 h45 h40
  obtain ⟨k, hkk⟩ : ∃ k : Int, k = 2 := ⟨2, rfl⟩
  rw [← hkk] at t0
  have HKK := Lib.hid hkk
  clear hkk
  generalize tx Ts a = x at *
  generalize nm Ts a = m at *
  generalize of_ Ts a = f at *
  generalize pk Ts a = y at *
  clear h HPK HFL HR ih
  go_enter Tryz.func105, Tryz.ntmps105
  go_wp2_with fail
  go_region_held3 (fun w' => w'.cell? ⟨B, 0, none⟩ = some (.slice (some ⟨b, o, none⟩) Ts.length tc) ∧ w'.cell? ⟨B, 1, none⟩ = some (.int .i64 a) ∧ w'.cell? ⟨b, o + a * 4, none⟩ = some (.int .i64 k) ∧ w'.cell? ⟨b, o + a * 4 + 1, none⟩ = some (str x) ∧ w'.cell? ⟨b, o + a * 4 + 2, none⟩ = some (.int .i64 m) ∧ w'.cell? ⟨b, o + a * 4 + 3, none⟩ = some (.int .i64 f))
    (first | ((try dsimp only); refine ⟨?_, ?_, ?_, ?_, ?_, ?_⟩ <;> (go_simp; done)) | go_keep)
    (fail)
  have HS1 : Hid (SpSt (World.drew (w.alloc (.cells #[.int .i64 k, str x, .int .i64 m, .int .i64 f] 74))) B base (some ⟨b, o, none⟩) tc Ts AA ac as_ X a NA nc ns (-1)) := Lib.hid (SpSt.drew (SpSt.alloc HS.out _))
  have HX1 : Hid (Box (World.drew (w.alloc (.cells #[.int .i64 k, str x, .int .i64 m, .int .i64 f] 74))) w.heap.size [.int .i64 k, str x, .int .i64 m, .int .i64 f]) := Lib.hid (Box.of_own (Own.drew (Own.new w 74 #[.int .i64 k, str x, .int .i64 m, .int .i64 f])))
  have HO1 : Hid (Only w.heap.size (B :: gOf NA) w (World.drew (w.alloc (.cells #[.int .i64 k, str x, .int .i64 m, .int .i64 f] 74)))) := Lib.hid ((Only.refl _ _ _).al (Nat.le_refl _) _).drew
  generalize World.drew (w.alloc (.cells #[.int .i64 k, str x, .int .i64 m, .int .i64 f] 74)) = w1 at *
  clear t0 t1 t2 t3 h0 h1
  go_wp2_with fail
  refine (HP1.out _ HS1.out).mono ?_
  rintro e w2 ⟨rfl, hb2⟩
  have HS2 := Lib.hid (HS1.out.step hb2)
  have HX2 := Lib.hid (HX1.out.step hb2)
  have HO2 : Hid (Only w.heap.size (B :: gOf NA) w w2) := Lib.hid (HO1.out.sub (Only.of_below hb2 []) HO1.out.size (fun x hx => by cases hx))
  clear hb2
  go_wp2_with fail
  refine (HP1.out _ HS2.out).mono ?_
  rintro e w3 ⟨rfl, hb3⟩
  have HS3 := Lib.hid (HS2.out.step hb3)
  have HX3 := Lib.hid (HX2.out.step hb3)
  have HO3 : Hid (Only w.heap.size (B :: gOf NA) w w3) := Lib.hid (HO2.out.sub (Only.of_below hb3 []) HO2.out.size (fun x hx => by cases hx))
  clear hb3
  obtain ⟨dB3, _, d13, _, _, d43, df3⟩ := HS3.out.cells
  obtain ⟨xz3, x03, x13, x23, x33⟩ := HX3.out.open4
  have hBx3 : ¬ w.heap.size = B := by omega
  have HSA : Hid (SpSt (w3.setCell ⟨B, 1, none⟩ (.int .i64 ((a : Int) + 1))) B base (some ⟨b, o, none⟩) tc Ts AA ac as_ X (a + 1) NA nc ns (-1)) := Lib.hid (by have := HS3.out.setAt (a + 1); simpa using this)
  have HOA : Hid (Only w.heap.size (B :: gOf NA) w (w3.setCell ⟨B, 1, none⟩ (.int .i64 ((a : Int) + 1)))) := Lib.hid (HO3.out.setCell (by simp) _)
  have HXA : Hid (Box (w3.setCell ⟨B, 1, none⟩ (.int .i64 ((a : Int) + 1))) w.heap.size [.int .i64 k, str x, .int .i64 m, .int .i64 f]) := Lib.hid (by refine Box.mk4 (by simpa using HX3.out.1) ?_ ?_ ?_ ?_ <;> (go_simp; done))
  obtain rfl := HKK.out
  go_wp2_with fail
  refine (HP2.out _ HSA.out).mono ?_
  rintro e w4 ⟨rfl, hb4⟩
  have HS4 := Lib.hid (HSA.out.step hb4)
  have HX4 := Lib.hid (HXA.out.step hb4)
  have HO4 : Hid (Only w.heap.size (B :: gOf NA) w w4) := Lib.hid (HOA.out.sub (Only.of_below hb4 []) HOA.out.size (fun x hx => by cases hx))
  clear hb4 x03 x13 x23 x33 d13 d43 df3
  obtain ⟨dB4, _, d14, _, _, d44, df4⟩ := HS4.out.cells
  obtain ⟨xz4, x04, x14, x24, x34⟩ := HX4.out.open4
  have hBx4 : ¬ w.heap.size = B := by omega
  go_wp2_with fail
  refine (HEM.out _ HS4.out).mono ?_
  rintro e w5 hg
  obtain ⟨v5, rfl⟩ := hg.ret
  have HG := Lib.hid (hg.comp HO4.out (fun x hx => .inl hx))
  clear hg
  go_wp2_with fail
  go_ret
  exact HG.out
set_option maxHeartbeats 8000000 in
theorem S_facX {B base : Nat} {TA : Option Addr} {tc : Nat} {Ts : List ETok} {AA : Option Addr} {ac : Nat} {as_ : List EAssign} {n : Nat} (hk : TokK Ts) (ih : SPc B base TA tc Ts AA ac as_ n) {d a : Nat} {X : List Nat} {NA : Option Addr} {nc : Nat} {ns : List ENode} (w : World)
    (h : SpSt w B base TA tc Ts AA ac as_ X a NA nc ns (-1)) (ha : a < Ts.length) (hd : d ≤ 65) (hn : 1 + 4 * (Ts.length - a) ≤ n + 1) (h64 : ¬ 64 < d) (h45 : pk Ts a ≠ [45]) (h40 : pk Ts a ≠ [40]) (hk1 : kd Ts a ≠ 1) (hk2 : kd Ts a ≠ 2) :
    Calls Tryz.prog 105 #[.pointer (some ⟨B, 0, none⟩), .int .i64 d] w (PGo B base TA tc Ts AA ac as_ X NA (prs Ts (n + 1) .fac d a ns) w) := by
  have hlen := hk.len
  have HPK : Hid (∀ (wx : World) (a1 : Nat) (NA1 : Option Addr) (nc1 : Nat) (n1 : List ENode), SpSt wx B base TA tc Ts AA ac as_ X a1 NA1 nc1 n1 (-1) → a1 < Ts.length → Calls Tryz.prog 59 #[.pointer (some ⟨B, 0, none⟩)] wx fun e w' => e = .returned (str (pk Ts a1)) ∧ Below wx.heap.size wx w') := Lib.hid (fun wx a1 NA1 nc1 n1 hx h1 => S_l13Peek wx hx h1)
  have HFL : Hid (∀ (wx : World) (a1 : Nat) (NA1 : Option Addr) (nc1 : Nat) (n1 : List ENode), SpSt wx B base TA tc Ts AA ac as_ X a1 NA1 nc1 n1 (-1) → a1 < Ts.length → Calls Tryz.prog 28 #[.pointer (some ⟨B, 0, none⟩)] wx fun e w' => e = .returned (.int .i64 0) ∧ w' = (wx.setCell ⟨B, 4, none⟩ (.int .i64 (of_ Ts a1))).drew) := Lib.hid (fun wx a1 NA1 nc1 n1 hx h1 => S_l13Fail wx hx h1)
  obtain ⟨hB, h0, h1, _, _, _, _⟩ := h.cells
  obtain ⟨ht1, ht2, b, o, rfl, hb, hbB, t0, t1, t2, t3⟩ := h.2.tokAt ha
  have HS := Lib.hid h
  unfold maxLen at ht2
  have ha' : (a : Int) < Ts.length := by omega
  have hd' : ¬ (64 : Int) < d := by omega
  have hBw : ¬ B = w.heap.size := by omega
  have e1 : (pk Ts a == [45]) = false := by simpa using h45
  have e2 : (pk Ts a == [40]) = false := by simpa using h40
  have HP1 : Hid (∀ wx, SpSt wx B base (some ⟨b, o, none⟩) tc Ts AA ac as_ X a NA nc ns (-1) → Calls Tryz.prog 59 #[.pointer (some ⟨B, 0, none⟩)] wx fun e w' => e = .returned (str (pk Ts a)) ∧ Below wx.heap.size wx w') := Lib.hid (fun wx hx => HPK.out wx a NA nc ns hx ha)
  have HR := Lib.hid (prs_facX (n := n) (ns := ns) h64 h45 h40 hk1 hk2)
  rw [HR.out]
  have HF1 : Hid (∀ wx, SpSt wx B base (some ⟨b, o, none⟩) tc Ts AA ac as_ X a NA nc ns (-1) → Calls Tryz.prog 28 #[.pointer (some ⟨B, 0, none⟩)] wx fun e w' => e = .returned (.int .i64 0) ∧ w' = (wx.setCell ⟨B, 4, none⟩ (.int .i64 (of_ Ts a))).drew) := Lib.hid (fun wx hx => HFL.out wx a NA nc ns hx ha)
  have HOF := Lib.hid (hk.off a)
  have e3 : (kd Ts a == 1) = false := by simpa using hk1
  have e4 : (kd Ts a == 2) = false := by simpa using hk2
  clear hk1 hk2 h45 h40
  generalize kd Ts a = k at *
  generalize tx Ts a = x at *
  generalize nm Ts a = m at *
  generalize of_ Ts a = f at *
  generalize pk Ts a = y at *
  clear h HPK HFL HR ih
  go_enter Tryz.func105, Tryz.ntmps105
  go_wp2_with fail
  go_region_held3 (fun w' => w'.cell? ⟨B, 0, none⟩ = some (.slice (some ⟨b, o, none⟩) Ts.length tc) ∧ w'.cell? ⟨B, 1, none⟩ = some (.int .i64 a) ∧ w'.cell? ⟨b, o + a * 4, none⟩ = some (.int .i64 k) ∧ w'.cell? ⟨b, o + a * 4 + 1, none⟩ = some (str x) ∧ w'.cell? ⟨b, o + a * 4 + 2, none⟩ = some (.int .i64 m) ∧ w'.cell? ⟨b, o + a * 4 + 3, none⟩ = some (.int .i64 f))
    (first | ((try dsimp only); refine ⟨?_, ?_, ?_, ?_, ?_, ?_⟩ <;> (go_simp; done)) | go_keep)
    (fail)
  have HS1 : Hid (SpSt (World.drew (w.alloc (.cells #[.int .i64 k, str x, .int .i64 m, .int .i64 f] 74))) B base (some ⟨b, o, none⟩) tc Ts AA ac as_ X a NA nc ns (-1)) := Lib.hid (SpSt.drew (SpSt.alloc HS.out _))
  have HX1 : Hid (Box (World.drew (w.alloc (.cells #[.int .i64 k, str x, .int .i64 m, .int .i64 f] 74))) w.heap.size [.int .i64 k, str x, .int .i64 m, .int .i64 f]) := Lib.hid (Box.of_own (Own.drew (Own.new w 74 #[.int .i64 k, str x, .int .i64 m, .int .i64 f])))
  have HO1 : Hid (Only w.heap.size (B :: gOf NA) w (World.drew (w.alloc (.cells #[.int .i64 k, str x, .int .i64 m, .int .i64 f] 74)))) := Lib.hid ((Only.refl _ _ _).al (Nat.le_refl _) _).drew
  generalize World.drew (w.alloc (.cells #[.int .i64 k, str x, .int .i64 m, .int .i64 f] 74)) = w1 at *
  clear t0 t1 t2 t3 h0 h1
  go_wp2_with fail
  refine (HP1.out _ HS1.out).mono ?_
  rintro e w2 ⟨rfl, hb2⟩
  have HS2 := Lib.hid (HS1.out.step hb2)
  have HX2 := Lib.hid (HX1.out.step hb2)
  have HO2 : Hid (Only w.heap.size (B :: gOf NA) w w2) := Lib.hid (HO1.out.sub (Only.of_below hb2 []) HO1.out.size (fun x hx => by cases hx))
  clear hb2
  go_wp2_with fail
  refine (HP1.out _ HS2.out).mono ?_
  rintro e w3 ⟨rfl, hb3⟩
  have HS3 := Lib.hid (HS2.out.step hb3)
  have HX3 := Lib.hid (HX2.out.step hb3)
  have HO3 : Hid (Only w.heap.size (B :: gOf NA) w w3) := Lib.hid (HO2.out.sub (Only.of_below hb3 []) HO2.out.size (fun x hx => by cases hx))
  clear hb3
  obtain ⟨dB3, _, d13, _, _, d43, df3⟩ := HS3.out.cells
  obtain ⟨xz3, x03, x13, x23, x33⟩ := HX3.out.open4
  have hBx3 : ¬ w.heap.size = B := by omega
  go_wp2_with fail
  refine (HF1.out _ HS3.out).mono ?_
  rintro e w4 ⟨rfl, rfl⟩
  go_wp2_with fail
  go_ret
  exact ⟨0, _, _, _, _, rfl, (HS3.out.setBad _).1.drew, HOF.out, (HO3.out.setCell (by simp) _).drew⟩
/-- The three functions, at whatever fuel. -/
theorem S_prs {B base : Nat} {TA : Option Addr} {tc : Nat} {Ts : List ETok} {AA : Option Addr} {ac : Nat} {as_ : List EAssign} (hk : TokK Ts) : ∀ n, SPc B base TA tc Ts AA ac as_ n := by
  intro n
  induction n using Nat.strongRecOn with
  | ind n ih =>
    refine ⟨fun add d a X NA nc ns w h ha hd hn => S_l13Binary hk ih add w h ha hd hn, fun d a X NA nc ns w h ha hd hn => ?_, fun name d a X NA nc ns w h ha hd hn => S_l13Call hk ih name w h ha hd hn⟩
    obtain ⟨m, rfl⟩ : ∃ m, n = m + 1 := ⟨n - 1, by omega⟩
    have im := ih m (by omega)
    by_cases h64 : 64 < d
    · exact S_fac0 hk im w h ha hd hn h64
    by_cases h45 : pk Ts a = [45]
    · exact S_facM hk im w h ha hd hn h64 h45
    by_cases h40 : pk Ts a = [40]
    · exact S_facP hk im w h ha hd hn h64 h40
    by_cases hk1 : kd Ts a = 1
    · exact S_facN hk im w h ha hd hn h64 h45 h40 hk1
    by_cases hk2 : kd Ts a = 2
    · by_cases hq : pk Ts (a + 1) = [40]
      · exact S_facC hk im w h ha hd hn h64 h45 h40 hk2 hq
      · exact S_facV hk im w h ha hd hn h64 h45 h40 hk2 hq
    · exact S_facX hk im w h ha hd hn h64 h45 h40 hk1 hk2
end Go.Proofs.YtnlbojckobgjpaaGreatDoor
