/- The program's parser: the assignments. -/
import Derived.Test.YtnlbojckobgjpaaGreatDoorPriG
import Derived.Test.YtnlbojckobgjpaaGreatDoorParL
import Derived.Deep.LoopGhost
set_option linter.unusedVariables false
set_option linter.unusedSimpArgs false
namespace Go.Proofs.YtnlbojckobgjpaaGreatDoor
open Go.RowKit Go.Lib
set_option maxRecDepth 100000
theorem T.tokKind (k n o : Int) (x : List UInt8) (w : World) : (Instr.field 74 (.agg #[.int .i64 k, str x, .int .i64 n, .int .i64 o]) 0).run Tryz.prog w = .ok (.int .i64 k) w := by kernel_rfl
/-- What the loop over the assignments keeps. -/
def AInv (B base : Nat) (TA : Option Addr) (tc : Nat) (Ts : List ETok) (X : List Nat) (R : Except Int EProg) (w : World) (k : Nat) (wr : World) : Prop :=
  ∃ (AA : Option Addr) (ac : Nat) (as_ : List EAssign) (a : Nat) (NA : Option Addr) (nc : Nat) (ns : List ENode) (f : Nat), IpSt wr B base TA tc Ts AA ac as_ X a 0 NA nc ns ∧ a < Ts.length ∧ f ≤ k ∧ Ts.length - a < f ∧ asg Ts (fuelT Ts) f a ns as_ = some R ∧ as_.length ≤ a ∧ Only w.heap.size [B] w wr ∧ (∀ x, x ∈ gOf NA → w.heap.size ≤ x) ∧ (∀ x, x ∈ gOf AA → w.heap.size ≤ x)
/-- What assignments leaves. -/
def AOut (B base : Nat) (TA : Option Addr) (tc : Nat) (Ts : List ETok) (X : List Nat) (R : Except Int EProg) (w : World) (e : Ending) (w' : World) : Prop :=
  Only w.heap.size [B] w w' ∧ (match R with
  | .ok p => ∃ (AA : Option Addr) (ac a : Nat) (NA : Option Addr) (nc : Nat), e = .returned (.tuple #[]) ∧ IpSt w' B base TA tc Ts AA ac p.2 X a 0 NA nc p.1 ∧ p.2.length ≤ Ts.length
  | .error o => e = .panicked (rej o) ∧ OwnD w' B)
set_option maxHeartbeats 4000000 in
theorem I_assignments {B base : Nat} {TA : Option Addr} {tc : Nat} {Ts : List ETok} {X : List Nat} {R : Except Int EProg} (hk : TokK Ts) (hl2 : Ts.length ≤ 2001) (w : World)
    (h : IpSt w B base TA tc Ts none 0 [] X 0 0 none 0 []) (hR : asg Ts (fuelT Ts) (Ts.length + 1) 0 [] [] = some R) :
    Calls Tryz.prog 21 #[.pointer (some ⟨B, 0, none⟩)] w (AOut B base TA tc Ts X R w) := by
  have hlen := hk.len
  have hfd := T.tokKind
  have HIV : Hid (AInv B base TA tc Ts X R w (Ts.length + 1) w) := Lib.hid ⟨none, 0, [], 0, none, 0, [], Ts.length + 1, h, hk.ok.pos, Nat.le_refl _, by omega, hR, by simp, Only.refl _ _ _, fun x hx => by simp [gOf] at hx, fun x hx => by simp [gOf] at hx⟩
  clear h hR
  go_enter Tryz.func21, Tryz.ntmps21
  go_wp2_with fail
  go_loopg [2, 3] (Ts.length + 1) (fun gg _ _ wr => AInv B base TA tc Ts X R w gg wr)
  case atStart => exact HIV.out
  case round =>
    obtain ⟨AA, ac, as_, a, NA, nc, ns, f, hst, ha, hf1, hf2, hR, hal, hO, hNB, hAB⟩ := hrel
    obtain ⟨wo, rfl⟩ : ∃ wo, wo = wr := ⟨_, rfl⟩
    obtain ⟨f', rfl⟩ : ∃ f', f = f' + 1 := ⟨f - 1, by omega⟩
    have HS := Lib.hid hst
    have HO := Lib.hid hO
    have HNB := Lib.hid hNB
    have HAB := Lib.hid hAB
    have hOz := hO.size
    have HN : Hid (Calls Tryz.prog 46 #[.pointer (some ⟨B, 0, none⟩)] wo fun e w' => e = .returned (.agg #[.int .i64 (kd Ts a), str (tx Ts a), .int .i64 (nm Ts a), .int .i64 (of_ Ts a)]) ∧ Below wo.heap.size wo w') := Lib.hid (I_now wo hst ha)
    clear HIV hst hO hNB hAB
    by_cases hk0 : kd Ts a = 0
    · have hRR : R = .ok (ns, as_) := by
        rw [asg_end hk0] at hR
        injection hR with hR
        exact hR.symm
      subst hRR
      rw [hk0] at HN
      clear hR
      generalize tx Ts a = xx at *
      generalize nm Ts a = nn at *
      generalize of_ Ts a = oo at *
      go_wp2_with fail
      (with_reducible refine HN.out.mono ?_)
      rintro e u0 ⟨rfl, hb0⟩
      have HB0 := Lib.hid hb0
      clear hb0
      go_wp2_with fail
      refine bodyPost_end (results_none rfl _ _ _) rfl ⟨HO.out.sub (Only.of_below HB0.out []) hOz (fun x hx => by cases hx), AA, ac, a, NA, nc, rfl, HS.out.step HB0.out, by show as_.length ≤ _; omega⟩
    · have hin := kd_in hk.ok ha hk0
      have e0 : (kd Ts a == 0) = false := beq_eq_false_iff_ne.2 hk0
      have HNX : Hid (∀ wx, Below wo.heap.size wo wx → Calls Tryz.prog 47 #[.pointer (some ⟨B, 0, none⟩)] wx fun e w' => e = .returned (.agg #[.int .i64 (kd Ts a), str (tx Ts a), .int .i64 (nm Ts a), .int .i64 (of_ Ts a)]) ∧ IpSt w' B base TA tc Ts AA ac as_ X (a + 1) 0 NA nc ns ∧ Only wx.heap.size [B] wx w') := Lib.hid (fun wx hb => I_next wx (HS.out.step hb) ha hlen hk0)
      by_cases hk2 : kd Ts a = 2
      · by_cases h61 : pk Ts (a + 1) = [61]
        · have hin2 := pk_in hk.ok hin (by rw [h61]; simp)
          have hE := prs_ends hk.ok (fuelT Ts) (.bin true) 1 (a + 2) ns hin2 (by unfold fuelT; show 3 + _ ≤ _; omega)
          have HND : Hid (∀ wx, IpSt wx B base TA tc Ts AA ac as_ X (a + 1) 0 NA nc ns → Calls Tryz.prog 49 #[.pointer (some ⟨B, 0, none⟩), .string ⟨#[61]⟩] wx (INeed B base TA tc Ts AA ac as_ X (a + 1) 0 NA nc ns true wx)) := Lib.hid (fun wx q => by have := I_need [61] wx q hin hlen (by simp); rw [show decide (pk Ts (a + 1) = [61]) = true by simp [h61]] at this; exact this)
          have HEX : Hid (∀ wx, IpSt wx B base TA tc Ts AA ac as_ X (a + 2) 0 NA nc ns → Calls Tryz.prog 50 #[.pointer (some ⟨B, 0, none⟩)] wx (IGo B base TA tc Ts AA ac as_ X 0 NA (prs Ts (fuelT Ts) (.bin true) 1 (a + 2) ns) wx)) := Lib.hid (fun wx q => (I_prs hk (fuelT Ts)).bin true 0 (a + 2) X NA nc ns wx q hin2 (by omega) (by unfold fuelT; show 3 + _ ≤ _; omega))
          cases hr : prs Ts (fuelT Ts) (.bin true) 1 (a + 2) ns with
          | out => exact absurd hr hE.1
          | bad o =>
            have hRR : R = .error o := by
              rw [asg_bad hk2 h61 hr] at hR
              injection hR with hR
              exact hR.symm
            subst hRR
            rw [hr] at HEX
            rw [hk2] at HN HNX
            clear hR hr hE h61 hk0 hk2 e0
            generalize tx Ts a = xx at *
            generalize nm Ts a = nn at *
            generalize of_ Ts a = oo at *
            go_wp2_with fail
            (with_reducible refine HN.out.mono ?_)
            rintro e u0 ⟨rfl, hb0⟩
            have HB0 := Lib.hid hb0
            clear hb0
            go_wp2_with fail
            (with_reducible refine (HNX.out _ HB0.out).mono ?_)
            rintro e u1 ⟨rfl, hs1, hO1⟩
            have HS1 := Lib.hid (hs1.alloc (.cells #[.int .i64 2, str xx, .int .i64 nn, .int .i64 oo] 74))
            have HTB1 : Hid (Own (u1.alloc (.cells #[.int .i64 2, str xx, .int .i64 nn, .int .i64 oo] 74)) u1.heap.size 74 [.int .i64 2, str xx, .int .i64 nn, .int .i64 oo]) := Lib.hid (Own.new u1 74 #[_, _, _, _])
            have hO1' : Only w.heap.size [B] w u1 := (HO.out.sub (Only.of_below HB0.out []) hOz (fun x hx => by cases hx)).sub hO1 (Nat.le_trans hOz HB0.out.size) (fun x hx => .inl hx)
            have HO1 : Hid (Only w.heap.size [B] w (u1.alloc (.cells #[.int .i64 2, str xx, .int .i64 nn, .int .i64 oo] 74))) := Lib.hid (hO1'.al hO1'.size _)
            have hz1 := hO1'.size
            have htb : ¬ u1.heap.size = B := by have := hs1.1.lt; omega
            have htb2 : ¬ B = u1.heap.size := fun q => htb q.symm
            have HTN : Hid (u1.heap.size ∉ gOf NA ∧ u1.heap.size ∉ gOf AA) := Lib.hid (by
              obtain ⟨cs, hg, _, _⟩ := hs1.2.nod
              exact ⟨fun q => by have := hg.lt _ q; omega, fun q => by have := hs1.2.ass.lt _ q; omega⟩)
            clear hs1 hO1 hO1'
            go_wp2_with fail
            (with_reducible refine (HND.out _ HS1.out).mono ?_)
            rintro e u2 ⟨hO2, rfl, hs2⟩
            have HS2 : Hid (IpSt u2 B base TA tc Ts AA ac as_ X (a + 2) 0 NA nc ns) := Lib.hid hs2
            have HTB2 := Lib.hid (hO2.own HTB1.out HTB1.out.lt (by simpa using htb))
            have HO2 : Hid (Only w.heap.size [B] w u2) := Lib.hid (HO1.out.sub hO2 HO1.out.size (fun x hx => .inl hx))
            clear hs2 hO2
            go_wp2_with fail
            (with_reducible refine (HEX.out _ HS2.out).mono ?_)
            rintro e u3 ⟨rfl, q1, q2⟩
            have Q1 := Lib.hid q1
            have Q2 : Hid (Only w.heap.size [B] w u3) := Lib.hid (HO2.out.sub q2 HO2.out.size (fun x hx => by
              rcases List.mem_cons.1 hx with rfl | hx
              · exact .inl (by simp)
              · exact .inr (HNB.out x hx)))
            clear q1 q2
            go_wp2_with fail
            exact ⟨rfl, Q2.out, rfl, Q1.out⟩
          | ok v a1 n1 =>
            rw [hr] at HEX
            have h6 : a + 2 + 1 ≤ a1 ∧ a1 < Ts.length := hE.2 v a1 n1 hr
            by_cases h59 : pk Ts a1 = [59]
            · have hin4 := pk_in hk.ok h6.2 (by rw [h59]; simp)
              rw [asg_next hk2 h61 hr h59] at hR
              have HRN := Lib.hid hR
              have HND2 : Hid (∀ wx NA' nc', IpSt wx B base TA tc Ts AA ac as_ X a1 0 NA' nc' n1 → Calls Tryz.prog 49 #[.pointer (some ⟨B, 0, none⟩), .string ⟨#[59]⟩] wx (INeed B base TA tc Ts AA ac as_ X a1 0 NA' nc' n1 true wx)) := Lib.hid (fun wx NA' nc' q => by have := I_need [59] wx q h6.2 hlen (by simp); rw [show decide (pk Ts a1 = [59]) = true by simp [h59]] at this; exact this)
              rw [hk2] at HN HNX
              clear hR hr hE h61 hk0 hk2 e0 h59
              generalize tx Ts a = xx at *
              generalize nm Ts a = nn at *
              generalize of_ Ts a = oo at *
              go_wp2_with fail
              (with_reducible refine HN.out.mono ?_)
              rintro e u0 ⟨rfl, hb0⟩
              have HB0 := Lib.hid hb0
              clear hb0
              go_wp2_with fail
              (with_reducible refine (HNX.out _ HB0.out).mono ?_)
              rintro e u1 ⟨rfl, hs1, hO1⟩
              have HS1 := Lib.hid (hs1.alloc (.cells #[.int .i64 2, str xx, .int .i64 nn, .int .i64 oo] 74))
              have HTB1 : Hid (Own (u1.alloc (.cells #[.int .i64 2, str xx, .int .i64 nn, .int .i64 oo] 74)) u1.heap.size 74 [.int .i64 2, str xx, .int .i64 nn, .int .i64 oo]) := Lib.hid (Own.new u1 74 #[_, _, _, _])
              have hO1' : Only w.heap.size [B] w u1 := (HO.out.sub (Only.of_below HB0.out []) hOz (fun x hx => by cases hx)).sub hO1 (Nat.le_trans hOz HB0.out.size) (fun x hx => .inl hx)
              have HO1 : Hid (Only w.heap.size [B] w (u1.alloc (.cells #[.int .i64 2, str xx, .int .i64 nn, .int .i64 oo] 74))) := Lib.hid (hO1'.al hO1'.size _)
              have hz1 := hO1'.size
              have htb : ¬ u1.heap.size = B := by have := hs1.1.lt; omega
              have htb2 : ¬ B = u1.heap.size := fun q => htb q.symm
              have HTN : Hid (u1.heap.size ∉ gOf NA ∧ u1.heap.size ∉ gOf AA) := Lib.hid (by
                obtain ⟨cs, hg, _, _⟩ := hs1.2.nod
                exact ⟨fun q => by have := hg.lt _ q; omega, fun q => by have := hs1.2.ass.lt _ q; omega⟩)
              clear hs1 hO1 hO1'
              go_wp2_with fail
              (with_reducible refine (HND.out _ HS1.out).mono ?_)
              rintro e u2 ⟨hO2, rfl, hs2⟩
              have HS2 : Hid (IpSt u2 B base TA tc Ts AA ac as_ X (a + 2) 0 NA nc ns) := Lib.hid hs2
              have HTB2 := Lib.hid (hO2.own HTB1.out HTB1.out.lt (by simpa using htb))
              have HO2 : Hid (Only w.heap.size [B] w u2) := Lib.hid (HO1.out.sub hO2 HO1.out.size (fun x hx => .inl hx))
              clear hs2 hO2
              go_wp2_with fail
              (with_reducible refine (HEX.out _ HS2.out).mono ?_)
              rintro e u3 ⟨NA3, nc3, rfl, hs3, hO3, hS3⟩
              have HS3 : Hid (IpSt u3 B base TA tc Ts AA ac as_ X a1 0 NA3 nc3 n1) := Lib.hid hs3
              have HTB3 := Lib.hid (hO3.own HTB2.out HTB2.out.lt (by simp only [List.mem_cons, not_or]; exact ⟨htb, HTN.out.1⟩))
              have HO3 : Hid (Only w.heap.size [B] w u3) := Lib.hid (HO2.out.sub hO3 HO2.out.size (fun x hx => by
                rcases List.mem_cons.1 hx with rfl | hx
                · exact .inl (by simp)
                · exact .inr (HNB.out x hx)))
              have HNB3 : Hid (∀ x, x ∈ gOf NA3 → w.heap.size ≤ x) := Lib.hid (fun x hx => by
                rcases hS3 x hx with q | q
                · exact HNB.out x q
                · exact Nat.le_trans HO2.out.size q)
              clear hs3 hO3 hS3
              go_wp2_with fail
              (with_reducible refine (HND2.out _ _ _ HS3.out).mono ?_)
              rintro e u4 ⟨hO4, rfl, hs4⟩
              have HS4 : Hid (IpSt u4 B base TA tc Ts AA ac as_ X (a1 + 1) 0 NA3 nc3 n1) := Lib.hid hs4
              have HTB4 := Lib.hid (hO4.own HTB3.out HTB3.out.lt (by simpa using htb))
              have HO4 : Hid (Only w.heap.size [B] w u4) := Lib.hid (HO3.out.sub hO4 HO3.out.size (fun x hx => .inl hx))
              clear hs4 hO4
              obtain ⟨zB, _, _, _, _, d4, df⟩ := HS4.out.cells
              have tz4 := HTB4.out.lt
              have x1 := HTB4.out.cell 1
              (try dsimp only [List.getElem?_cons_succ, List.getElem?_cons_zero] at x1)
              have hasl : as_.length ≤ 2001 := by omega
              have hlow := HS4.out.2.low
              have HGA := Lib.hid HS4.out.2.ass
              go_wp2_with fail
              refine wp_region_M (S := (fun w' => w'.cell? ⟨B, 4, none⟩ = some (.slice AA as_.length ac) ∧ w'.frozen? ⟨B, 4, none⟩ = false ∧ w'.cell? ⟨u1.heap.size, 1, none⟩ = some (str xx))) 15 (by kernel_rfl) (by (try dsimp only); refine ⟨?_, ?_, ?_⟩ <;> (go_simp; done)) (fun hHeld => ?_)
              refine wpAnyM_take (i := 0) (v := ?_) rfl (by kernel_rfl) (by kernel_rfl) (by kernel_rfl) (by kernel_rfl) (fun _ _ _ h => h) (Or.inl ⟨by rfl, ?_⟩) (by assumption) ?_; rotate_left; focus (intro w hSw; (try dsimp only at hSw); go_simp; try with_reducible rfl)
              refine wpAnyM_take (i := 1) (v := ?_) rfl (by kernel_rfl) (by kernel_rfl) (by kernel_rfl) (by kernel_rfl) (fun _ _ _ h => h) (Or.inl ⟨by rfl, ?_⟩) (by assumption) ?_; rotate_left; focus (intro w hSw; (try dsimp only at hSw); go_simp; try with_reducible rfl)
              refine wpAnyM_take (i := 2) (v := ?_) rfl (by kernel_rfl) (by kernel_rfl) (by kernel_rfl) (by kernel_rfl) (fun _ _ _ h => h) (Or.inl ⟨by rfl, ?_⟩) (by assumption) ?_; rotate_left; focus (intro w hSw; (try dsimp only at hSw); go_simp; try with_reducible rfl)
              refine wpAnyM_take (i := 3) (v := ?_) rfl (by kernel_rfl) (by kernel_rfl) (by kernel_rfl) (by kernel_rfl) (fun _ _ _ h => h) (Or.inl ⟨by rfl, ?_⟩) (by assumption) ?_; rotate_left; focus (intro w hSw; (try dsimp only at hSw); go_simp; try with_reducible rfl)
              refine wpAnyM_take (i := 4) (v := ?_) rfl (by kernel_rfl) (by kernel_rfl) (by kernel_rfl) (by kernel_rfl) (fun _ _ _ h => h) (Or.inl ⟨by rfl, ?_⟩) (by assumption) ?_; rotate_left; focus (intro w hSw; (try dsimp only at hSw); go_simp; try with_reducible rfl)
              refine wpAnyM_take (i := 5) (v := ?_) rfl (by kernel_rfl) (by kernel_rfl) (by kernel_rfl) (by kernel_rfl) (fun _ _ _ h => h) (Or.inl ⟨by rfl, ?_⟩) (by assumption) ?_; rotate_left; focus (intro w hSw; (try dsimp only at hSw); go_simp; try with_reducible rfl)
              refine wpAnyM_take (i := 6) (v := ?_) rfl (by kernel_rfl) (by kernel_rfl) (by kernel_rfl) (by kernel_rfl) (fun _ _ _ h => h) (Or.inl ⟨by rfl, ?_⟩) (by assumption) ?_; rotate_left; focus (intro w hSw; (try dsimp only at hSw); go_simp; try with_reducible rfl)
              refine wpAnyM_take (i := 7) (v := ?_) rfl (by kernel_rfl) (by kernel_rfl) (by kernel_rfl) (by kernel_rfl) (fun _ _ _ h => h) (Or.inl ⟨by rfl, ?_⟩) (by assumption) ?_; rotate_left; focus (intro w hSw; (try dsimp only at hSw); go_simp; try with_reducible rfl)
              refine wpAnyM_take (i := 8) (v := ?_) rfl (by kernel_rfl) (by kernel_rfl) (by kernel_rfl) (by kernel_rfl) (fun _ _ _ h => h) (Or.inl ⟨by rfl, ?_⟩) (by assumption) ?_; rotate_left; focus (intro w hSw; (try dsimp only at hSw); go_simp; try with_reducible rfl)
              refine wpAnyM_take (i := 9) (v := ?_) rfl (by kernel_rfl) (by kernel_rfl) (by kernel_rfl) (by kernel_rfl) (fun _ _ _ h => h) (Or.inl ⟨by rfl, ?_⟩) (by assumption) ?_; rotate_left; focus (intro w hSw; (try dsimp only at hSw); go_simp; try with_reducible rfl)
              refine wpAnyM_one (i := 10) rfl (by kernel_rfl) (fun K10 hK10 => ?_)
              go_simp
              refine hK10.out _ _ (fun _ => by (try dsimp only); refine ⟨?_, ?_, ?_⟩ <;> (go_simp; done)) (fun hHeld10 => ?_)
              have hX10 := hHeld10 (by decide)
              refine wpAnyM_one (i := 11) rfl (by kernel_rfl) (fun K11 hK11 => ?_)
              (refine step_app (by rfl) _ _ 24 (by rfl) (base) 48 (.agg #[.string ByteArray.empty, .int .i64 0]) 2 24 Tryz.underlying24 T.infoAss rfl (by decide) (xs := rAss as_) (by rfl) ?_ (ys := rAss [(xx, v)]) (by rfl) ?_ (rAss_one _) ?_ ?_ ?_ ?_; (exact (by repeat (first | (with_reducible exact HGA.out) | (with_reducible refine Grow.alloc ?_ _) | (with_reducible refine Grow.drewN ?_ _) | (with_reducible refine Grow.drew ?_) | ((with_reducible refine Grow.far ?_ ?_ _); rotate_left; (first | omega | (simp <;> omega))) | (with_reducible refine Grow.step (by assumption) ?_)))); (exact (Grow.rs (base := 0) (n := 1) (c := 1) (by repeat (first | (with_reducible refine Grow.drewN ?_ _) | (with_reducible refine Grow.drew ?_) | (refine Grow.lit_at (by simp) (by rfl) (Nat.zero_le _) (by unfold maxLen; omega)))))); (unfold maxLen; omega); (omega); (first | omega | (simp <;> omega)); rintro A' c' w2 gA)
              have hsa := gA.2.2.2.1
              (try simp at hsa)
              have hem := PMem.assign HS4.out.2 (by repeat (first | (with_reducible exact Below.refl _ _) | (with_reducible assumption) | ((with_reducible refine Below.alloc ?_ ?_ _); rotate_left; (first | omega | (simp <;> omega))) | ((with_reducible refine Below.setCell ?_ ?_ _); rotate_left; (first | omega | (simp <;> omega))) | (with_reducible refine below_drewN ?_ _) | (with_reducible refine Below.drew ?_) | ((with_reducible refine Below.step (by assumption) ?_ ?_); rotate_left; (first | omega | (simp <;> omega))))) gA
              have hAA := HS4.out.2.ass.lt
              have hAX := HS4.out.2.apA
              have ho2 : Own w2 B 61 [.slice TA Ts.length tc, .int .i64 ((a1 + 1 : Nat) : Int), .int .i64 0, .slice NA3 n1.length nc3, .slice AA as_.length ac] := hem.2.1.own HS4.out.1 zB (fun hN => (hAX B hN).1 rfl)
              have ht2' := hem.2.1.own HTB4.out tz4 HTN.out.2
              have hb2 : Only w.heap.size [B] w w2 := HO4.out.sub hem.2.1 HO4.out.size (fun y hy => .inr (HAB.out y hy))
              have HAB2 : Hid (∀ x, x ∈ gOf A' → w.heap.size ≤ x) := Lib.hid (fun x hx => by
                rcases hem.2.2 x hx with r | r
                · exact HAB.out x r
                · exact Nat.le_trans HO4.out.size r)
              have HO2' := Lib.hid ho2
              have HB5 := Lib.hid hb2
              have HE2 := Lib.hid hem.1
              have k3 := ho2.cell 4
              have kf := ho2.frozen 4
              have kx := ht2'.cell 1
              have kB := ho2.lt
              have ktz := ht2'.lt
              (try dsimp only [List.getElem?_cons_succ, List.getElem?_cons_zero] at k3 kx)
              clear gA hem ho2 hb2 ht2' hAA hAX
              refine hK11.out _ _ (fun _ => by (try dsimp only); refine ⟨?_, ?_, ?_⟩ <;> (go_simp; done)) (fun hHeld11 => ?_)
              have hX11 := hHeld11 (by decide)
              refine wpAnyM_one (i := 12) rfl (by kernel_rfl) (fun K12 hK12 => ?_)
              go_simp
              refine hK12.out _ _ (fun _ => hX11) (fun hHeld12 => ?_)
              have hX12 := hHeld12 (by decide)
              refine wpAnyM_one (i := 13) rfl (by kernel_rfl) (fun K13 hK13 => ?_)
              go_simp
              refine hK13.out _ _ (fun _ => hX12) (fun hHeld13 => ?_)
              have hX13 := hHeld13 (by decide)
              refine wpAnyM_one (i := 14) rfl (by kernel_rfl) (fun K14 hK14 => ?_)
              go_simp
              refine hK14.out _ _ (fun _ => hX13) (fun hHeld14 => ?_)
              have hX14 := hHeld14 (by decide)
              refine wpAnyM_one (i := 15) rfl (by kernel_rfl) (fun K15 hK15 => ?_)
              go_simp
              refine hK15.out _ _ (fun h => absurd rfl h) (fun hHeld15 => ?_)
              refine wpAnyM_done (by kernel_rfl) ?_ _
              have hst : IpSt (w2.setCell ⟨B, 4, none⟩ (.slice A' (as_.length + 1) c')) B base TA tc Ts A' c' (as_ ++ [(xx, v)]) X (a1 + 1) 0 NA3 nc3 n1 := ⟨by have := HO2'.out.set_ 4 (.slice A' (as_.length + 1) c'); simpa using this, HE2.out.set_ 4 _⟩
              have HSF := Lib.hid hst
              have HBF : Hid (Only w.heap.size [B] w (w2.setCell ⟨B, 4, none⟩ (.slice A' (as_.length + 1) c'))) := Lib.hid (Only.setCell HB5.out (by simp) _)
              generalize w2.setCell ⟨B, 4, none⟩ (.slice A' (as_.length + 1) c') = w3 at *
              clear hst hX10 hX11 hX12 hX13 hX14 hHeld k3 kf kx
              go_wp2_with fail
              go_roundg (gk - 1)
              case measure => omega
              case rel => exact ⟨A', c', as_ ++ [(xx, v)], a1 + 1, NA3, nc3, n1, f', HSF.out, hin4, by omega, by omega, HRN.out, by simp; omega, HBF.out, HNB3.out, HAB2.out⟩
            · have hRR : R = .error (of_ Ts a1) := by
                rw [asg_semi hk2 h61 hr h59] at hR
                injection hR with hR
                exact hR.symm
              have HND2 : Hid (∀ wx NA' nc', IpSt wx B base TA tc Ts AA ac as_ X a1 0 NA' nc' n1 → Calls Tryz.prog 49 #[.pointer (some ⟨B, 0, none⟩), .string ⟨#[59]⟩] wx (INeed B base TA tc Ts AA ac as_ X a1 0 NA' nc' n1 false wx)) := Lib.hid (fun wx NA' nc' q => by have := I_need [59] wx q h6.2 hlen (by simp); rw [show decide (pk Ts a1 = [59]) = false by simp [h59]] at this; exact this)
              have HRR := Lib.hid hRR
              rw [hk2] at HN HNX
              clear hR hr hE h61 hk0 hk2 e0 h59 hRR
              generalize tx Ts a = xx at *
              generalize nm Ts a = nn at *
              generalize of_ Ts a = oo at *
              go_wp2_with fail
              (with_reducible refine HN.out.mono ?_)
              rintro e u0 ⟨rfl, hb0⟩
              have HB0 := Lib.hid hb0
              clear hb0
              go_wp2_with fail
              (with_reducible refine (HNX.out _ HB0.out).mono ?_)
              rintro e u1 ⟨rfl, hs1, hO1⟩
              have HS1 := Lib.hid (hs1.alloc (.cells #[.int .i64 2, str xx, .int .i64 nn, .int .i64 oo] 74))
              have HTB1 : Hid (Own (u1.alloc (.cells #[.int .i64 2, str xx, .int .i64 nn, .int .i64 oo] 74)) u1.heap.size 74 [.int .i64 2, str xx, .int .i64 nn, .int .i64 oo]) := Lib.hid (Own.new u1 74 #[_, _, _, _])
              have hO1' : Only w.heap.size [B] w u1 := (HO.out.sub (Only.of_below HB0.out []) hOz (fun x hx => by cases hx)).sub hO1 (Nat.le_trans hOz HB0.out.size) (fun x hx => .inl hx)
              have HO1 : Hid (Only w.heap.size [B] w (u1.alloc (.cells #[.int .i64 2, str xx, .int .i64 nn, .int .i64 oo] 74))) := Lib.hid (hO1'.al hO1'.size _)
              have hz1 := hO1'.size
              have htb : ¬ u1.heap.size = B := by have := hs1.1.lt; omega
              have htb2 : ¬ B = u1.heap.size := fun q => htb q.symm
              have HTN : Hid (u1.heap.size ∉ gOf NA ∧ u1.heap.size ∉ gOf AA) := Lib.hid (by
                obtain ⟨cs, hg, _, _⟩ := hs1.2.nod
                exact ⟨fun q => by have := hg.lt _ q; omega, fun q => by have := hs1.2.ass.lt _ q; omega⟩)
              clear hs1 hO1 hO1'
              go_wp2_with fail
              (with_reducible refine (HND.out _ HS1.out).mono ?_)
              rintro e u2 ⟨hO2, rfl, hs2⟩
              have HS2 : Hid (IpSt u2 B base TA tc Ts AA ac as_ X (a + 2) 0 NA nc ns) := Lib.hid hs2
              have HTB2 := Lib.hid (hO2.own HTB1.out HTB1.out.lt (by simpa using htb))
              have HO2 : Hid (Only w.heap.size [B] w u2) := Lib.hid (HO1.out.sub hO2 HO1.out.size (fun x hx => .inl hx))
              clear hs2 hO2
              go_wp2_with fail
              (with_reducible refine (HEX.out _ HS2.out).mono ?_)
              rintro e u3 ⟨NA3, nc3, rfl, hs3, hO3, hS3⟩
              have HS3 : Hid (IpSt u3 B base TA tc Ts AA ac as_ X a1 0 NA3 nc3 n1) := Lib.hid hs3
              have HTB3 := Lib.hid (hO3.own HTB2.out HTB2.out.lt (by simp only [List.mem_cons, not_or]; exact ⟨htb, HTN.out.1⟩))
              have HO3 : Hid (Only w.heap.size [B] w u3) := Lib.hid (HO2.out.sub hO3 HO2.out.size (fun x hx => by
                rcases List.mem_cons.1 hx with rfl | hx
                · exact .inl (by simp)
                · exact .inr (HNB.out x hx)))
              have HNB3 : Hid (∀ x, x ∈ gOf NA3 → w.heap.size ≤ x) := Lib.hid (fun x hx => by
                rcases hS3 x hx with q | q
                · exact HNB.out x q
                · exact Nat.le_trans HO2.out.size q)
              clear hs3 hO3 hS3
              go_wp2_with fail
              (with_reducible refine (HND2.out _ _ _ HS3.out).mono ?_)
              rintro e u4 ⟨hO4, rfl, hd4⟩
              have HD := Lib.hid hd4
              have HO4 : Hid (Only w.heap.size [B] w u4) := Lib.hid (HO3.out.sub hO4 HO3.out.size (fun x hx => .inl hx))
              clear hd4 hO4
              go_wp2_with fail
              rw [HRR.out]
              exact ⟨rfl, HO4.out, rfl, HD.out⟩
        · have hRR : R = .error (of_ Ts (a + 1)) := by
            rw [asg_eq hk2 h61] at hR
            injection hR with hR
            exact hR.symm
          have HRR := Lib.hid hRR
          have HND : Hid (∀ wx, IpSt wx B base TA tc Ts AA ac as_ X (a + 1) 0 NA nc ns → Calls Tryz.prog 49 #[.pointer (some ⟨B, 0, none⟩), .string ⟨#[61]⟩] wx (INeed B base TA tc Ts AA ac as_ X (a + 1) 0 NA nc ns false wx)) := Lib.hid (fun wx q => by have := I_need [61] wx q hin hlen (by simp); rw [show decide (pk Ts (a + 1) = [61]) = false by simp [h61]] at this; exact this)
          rw [hk2] at HN HNX
          clear hR h61 hk0 hk2 e0 hRR
          generalize tx Ts a = xx at *
          generalize nm Ts a = nn at *
          generalize of_ Ts a = oo at *
          go_wp2_with fail
          (with_reducible refine HN.out.mono ?_)
          rintro e u0 ⟨rfl, hb0⟩
          have HB0 := Lib.hid hb0
          clear hb0
          go_wp2_with fail
          (with_reducible refine (HNX.out _ HB0.out).mono ?_)
          rintro e u1 ⟨rfl, hs1, hO1⟩
          have HS1 := Lib.hid (hs1.alloc (.cells #[.int .i64 2, str xx, .int .i64 nn, .int .i64 oo] 74))
          have HTB1 : Hid (Own (u1.alloc (.cells #[.int .i64 2, str xx, .int .i64 nn, .int .i64 oo] 74)) u1.heap.size 74 [.int .i64 2, str xx, .int .i64 nn, .int .i64 oo]) := Lib.hid (Own.new u1 74 #[_, _, _, _])
          have hO1' : Only w.heap.size [B] w u1 := (HO.out.sub (Only.of_below HB0.out []) hOz (fun x hx => by cases hx)).sub hO1 (Nat.le_trans hOz HB0.out.size) (fun x hx => .inl hx)
          have HO1 : Hid (Only w.heap.size [B] w (u1.alloc (.cells #[.int .i64 2, str xx, .int .i64 nn, .int .i64 oo] 74))) := Lib.hid (hO1'.al hO1'.size _)
          have hz1 := hO1'.size
          have htb : ¬ u1.heap.size = B := by have := hs1.1.lt; omega
          have htb2 : ¬ B = u1.heap.size := fun q => htb q.symm
          have HTN : Hid (u1.heap.size ∉ gOf NA ∧ u1.heap.size ∉ gOf AA) := Lib.hid (by
            obtain ⟨cs, hg, _, _⟩ := hs1.2.nod
            exact ⟨fun q => by have := hg.lt _ q; omega, fun q => by have := hs1.2.ass.lt _ q; omega⟩)
          clear hs1 hO1 hO1'
          go_wp2_with fail
          (with_reducible refine (HND.out _ HS1.out).mono ?_)
          rintro e u2 ⟨hO2, rfl, hd2⟩
          have HD := Lib.hid hd2
          have HO2 : Hid (Only w.heap.size [B] w u2) := Lib.hid (HO1.out.sub hO2 HO1.out.size (fun x hx => .inl hx))
          clear hd2 hO2
          go_wp2_with fail
          rw [HRR.out]
          exact ⟨rfl, HO2.out, rfl, HD.out⟩
      · have hRR : R = .error (of_ Ts a) := by
          rw [asg_kind hk0 hk2] at hR
          injection hR with hR
          exact hR.symm
        subst hRR
        have e2 : (kd Ts a == 2) = false := beq_eq_false_iff_ne.2 hk2
        have e2' : (kd Ts a != 2) = true := by simpa using hk2
        have HRJ : Hid (∀ wx, Calls Tryz.prog 48 #[.pointer (some ⟨B, 0, none⟩), .agg #[.int .i64 (kd Ts a), str (tx Ts a), .int .i64 (nm Ts a), .int .i64 (of_ Ts a)]] wx fun e w' => e = .panicked (rej (of_ Ts a)) ∧ Below wx.heap.size wx w') := Lib.hid (fun wx => I_reject _ _ _ _ _ wx)
        clear hR hk0 hk2
        generalize kd Ts a = kk at *
        generalize tx Ts a = xx at *
        generalize nm Ts a = nn at *
        generalize of_ Ts a = oo at *
        go_wp2_with fail
        (with_reducible refine HN.out.mono ?_)
        rintro e u0 ⟨rfl, hb0⟩
        have HB0 := Lib.hid hb0
        clear hb0
        go_wp2_with fail
        (with_reducible refine (HNX.out _ HB0.out).mono ?_)
        rintro e u1 ⟨rfl, hs1, hO1⟩
        have HS1 := Lib.hid (hs1.alloc (.cells #[.int .i64 kk, str xx, .int .i64 nn, .int .i64 oo] 74))
        have HTB1 : Hid (Own (u1.alloc (.cells #[.int .i64 kk, str xx, .int .i64 nn, .int .i64 oo] 74)) u1.heap.size 74 [.int .i64 kk, str xx, .int .i64 nn, .int .i64 oo]) := Lib.hid (Own.new u1 74 #[_, _, _, _])
        have hO1' : Only w.heap.size [B] w u1 := (HO.out.sub (Only.of_below HB0.out []) hOz (fun x hx => by cases hx)).sub hO1 (Nat.le_trans hOz HB0.out.size) (fun x hx => .inl hx)
        have HO1 : Hid (Only w.heap.size [B] w (u1.alloc (.cells #[.int .i64 kk, str xx, .int .i64 nn, .int .i64 oo] 74))) := Lib.hid (hO1'.al hO1'.size _)
        have hz1 := hO1'.size
        have htb : ¬ u1.heap.size = B := by have := hs1.1.lt; omega
        have htb2 : ¬ B = u1.heap.size := fun q => htb q.symm
        have HTN : Hid (u1.heap.size ∉ gOf NA ∧ u1.heap.size ∉ gOf AA) := Lib.hid (by
          obtain ⟨cs, hg, _, _⟩ := hs1.2.nod
          exact ⟨fun q => by have := hg.lt _ q; omega, fun q => by have := hs1.2.ass.lt _ q; omega⟩)
        clear hs1 hO1 hO1'
        go_wp2_with fail
        (with_reducible refine (HRJ.out _).mono ?_)
        rintro e u2 ⟨rfl, hb2⟩
        have HD := Lib.hid ((HS1.out.ownD).step hb2)
        have HO2 := Lib.hid (HO1.out.sub (Only.of_below hb2 []) HO1.out.size (fun x hx => by cases hx))
        clear hb2
        go_wp2_with fail
        exact ⟨rfl, HO2.out, rfl, HD.out⟩
end Go.Proofs.YtnlbojckobgjpaaGreatDoor
