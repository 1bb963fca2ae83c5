/- The program's parser: call. -/
import Derived.Test.YtnlbojckobgjpaaGreatDoorPriB
import Derived.Deep.LoopGhost
set_option linter.unusedVariables false
set_option linter.unusedSimpArgs false
namespace Go.Proofs.YtnlbojckobgjpaaGreatDoor
open Go.RowKit Go.Lib
set_option maxRecDepth 100000
theorem IpSt.app {w w' : World} {B base : Nat} {TA : Option Addr} {tc : Nat} {Ts : List ETok} {AA : Option Addr} {ac : Nat} {as_ : List EAssign} {X : List Nat} {NA : Option Addr} {nc : Nat} {ns : List ENode} {a : Nat} {dp : Int} {e : TypeId} {size n n' c' base' : Nat} {xs : List Value} {PA PA' : Option Addr} (h : IpSt w B base TA tc Ts AA ac as_ (gOf PA ++ X) a dp NA nc ns) (ap : Appended w base' e size PA n xs PA' n' c' w') : IpSt w' B base TA tc Ts AA ac as_ (gOf PA' ++ X) a dp NA nc ns :=
  ⟨(ap.2.2.1.block B h.1.lt (by have := h.2.xlt B; cases PA <;> simp_all [gOf])).trans h.1, h.2.app ap⟩
/-- What call's loop keeps. -/
def CaInv (B base : Nat) (TA : Option Addr) (tc : Nat) (Ts : List ETok) (AA : Option Addr) (ac : Nat) (as_ : List EAssign) (X : List Nat) (NA : Option Addr) (n d : Nat) (name : List UInt8) (R : PR) (w : World) (k : Nat) (l : List Int) (PA : Option Addr) (pc : Nat) (wr : World) : Prop :=
  ∃ (a1 : Nat) (NA1 : Option Addr) (nc1 : Nat) (n1 : List ENode), IpSt wr B base TA tc Ts AA ac as_ (gOf PA ++ X) a1 d NA1 nc1 n1 ∧ a1 < Ts.length ∧ l.length ≤ 3 ∧ Grow wr w.heap.size 3 1 PA l.length pc (ints l) ∧ Only w.heap.size (B :: gOf NA) w wr ∧ (∀ x, x ∈ gOf NA1 → x ∈ gOf NA ∨ w.heap.size ≤ x) ∧
    ((pk Ts a1 = [41] ∧ emit Ts (8, name, 0, l) (a1 + 1) n1 = R) ∨
     (∃ f s : Nat, prs Ts f (.args name l) (d + 1) s n1 = R ∧ s < Ts.length ∧ 4 + 4 * (Ts.length - s) ≤ f ∧ f ≤ n ∧ f ≤ k ∧ pk Ts a1 ≠ [41] ∧ ¬ (l = [] ∧ pk Ts s = [41]) ∧ ((l = [] ∧ s = a1) ∨ (l ≠ [] ∧ s = a1 + 1 ∧ pk Ts a1 = [44]))))
set_option maxHeartbeats 4000000 in
theorem I_call {B base : Nat} {TA : Option Addr} {tc : Nat} {Ts : List ETok} {AA : Option Addr} {ac : Nat} {as_ : List EAssign} {n : Nat} (hk : TokK Ts) (ih : ∀ m, m < n → IPc B base TA tc Ts AA ac as_ m) (name : List UInt8) {d a : Nat} {X : List Nat} {NA : Option Addr} {nc : Nat} {ns : List ENode} (w : World)
    (h : IpSt w B base TA tc Ts AA ac as_ X a d NA nc ns) (ha : a + 1 < Ts.length) (hd : d ≤ 64) (hp : pk Ts a = [40]) (hn : 4 + 4 * (Ts.length - (a + 1)) ≤ n) :
    Calls Tryz.prog 112 #[.pointer (some ⟨B, 0, none⟩), str name] w (IGo B base TA tc Ts AA ac as_ X d NA (prs Ts n (.args name []) (d + 1) (a + 1) ns) w) := by
  have hlen := hk.len
  have hX0 := fun x hx => (h.2.xlt x hx).1
  have HX0 := Lib.hid hX0
  have HNE : Hid (Calls Tryz.prog 49 #[.pointer (some ⟨B, 0, none⟩), .string ⟨#[40]⟩] w (INeed B base TA tc Ts AA ac as_ X a d NA nc ns true w)) := Lib.hid (by have := I_need [40] w h (by omega) hlen (by simp); rw [show decide (pk Ts a = [40]) = true by simp [hp]] at this; exact this)
  obtain ⟨R, hR⟩ : ∃ R, prs Ts n (.args name []) (d + 1) (a + 1) ns = R := ⟨_, rfl⟩
  have HST : Hid (∀ u, Only w.heap.size [B] w u → IpSt u B base TA tc Ts AA ac as_ X (a + 1) d NA nc ns → CaInv B base TA tc Ts AA ac as_ X NA n d name R w n [] (some ⟨u.heap.size, 0, none⟩) 0 (u.alloc (.cells #[] 3))) := Lib.hid (fun u q1 q2 => by
    have hO : Only w.heap.size (B :: gOf NA) w u := q1.mono' (fun x hx => by simp at hx; simp [hx])
    refine ⟨a + 1, NA, nc, ns, q2.fresh_ _, ha, by simp, Grow.lit u #[] 0 rfl q1.size (Nat.zero_le _), hO.al q1.size _, fun x hx => .inl hx, ?_⟩
    obtain ⟨m, rfl⟩ : ∃ m, n = m + 1 := ⟨n - 1, by omega⟩
    by_cases hp1 : pk Ts (a + 1) = [41]
    · exact .inl ⟨hp1, by rw [← hR, prs_args0 hp1]⟩
    · exact .inr ⟨m + 1, a + 1, hR, ha, hn, Nat.le_refl _, Nat.le_refl _, hp1, fun q => hp1 q.2, .inl ⟨rfl, rfl⟩⟩)
  rw [hR]
  clear hR hX0 h hp
  go_enter Tryz.func112, Tryz.ntmps112
  go_wp2_with fail
  (with_reducible refine HNE.out.mono ?_)
  rintro e u0 ⟨hO0, rfl, hs0⟩
  have HIV := Lib.hid (HST.out u0 hO0 hs0)
  have hz0 := hO0.size
  clear hO0 hs0
  go_wp2_with fail
  go_loopg [5] n (fun g p wr => ∃ (l : List Int) (PA : Option Addr) (pc : Nat), p = .slice PA l.length pc ∧ CaInv B base TA tc Ts AA ac as_ X NA n d name R w g l PA pc wr)
  case atStart => exact ⟨[], _, 0, rfl, HIV.out⟩
  case round =>
    obtain ⟨l, PA, pc, rfl, a1, NA1, nc1, n1, hst, ha1, hl3, hg, hO, hS, hc⟩ := hrel
    obtain ⟨wo, rfl⟩ : ∃ wo, wo = wr := ⟨_, rfl⟩
    have HS := Lib.hid hst
    have HO := Lib.hid hO
    have HSb := Lib.hid hS
    have HG := Lib.hid hg
    have HGE := Lib.hid hg.ge
    have hOz := hO.size
    have HI := Lib.hid (I_is [41] wo hst ha1 (by simp))
    have HI41 : Hid (Calls Tryz.prog 75 #[.pointer (some ⟨B, 0, none⟩), .string ⟨#[41]⟩] wo fun e w' => e = .returned (.bool (decide (pk Ts a1 = [41]))) ∧ Below wo.heap.size wo w') := HI
    clear HIV HST HNE HI hst hO hS hg
    rcases hc with ⟨hp41, hR⟩ | ⟨f, s, hR, hs1, hf1, hf2, hf3, hn41, hnl, hls⟩
    · rw [show decide (pk Ts a1 = [41]) = true by simp [hp41]] at HI41
      have hin := pk_in hk.ok ha1 (by rw [hp41]; simp)
      have HNXT : Hid (∀ wx, Below wo.heap.size wo wx → Calls Tryz.prog 47 #[.pointer (some ⟨B, 0, none⟩)] wx fun e w' => ∃ v, e = .returned v ∧ IpSt w' B base TA tc Ts AA ac as_ (gOf PA ++ X) (a1 + 1) d NA1 nc1 n1 ∧ Only wx.heap.size [B] wx w') := Lib.hid (fun wx hb => (I_next wx (HS.out.step hb) ha1 hlen (pk_kd hp41 (by simp))).mono (fun e w' q => ⟨_, q⟩))
      have HADD : Hid (∀ wx, IpSt wx B base TA tc Ts AA ac as_ (gOf PA ++ X) (a1 + 1) d NA1 nc1 n1 → Grow wx w.heap.size 3 1 PA l.length pc (ints l) → Calls Tryz.prog 101 #[.pointer (some ⟨B, 0, none⟩), nodeV 8 name 0 (.slice PA l.length pc)] wx (IGo B base TA tc Ts AA ac as_ X d NA1 R wx)) := Lib.hid (fun wx q1 q2 => by
        rw [← hR]
        exact I_add wx q1 (by omega) hin hlen q2.ownS (fun y hy q => by have := HX0.out y q; have := q2.ge y hy; omega))
      have HGN : Hid (∀ u1 u2, Below wo.heap.size wo u1 → Only u1.heap.size [B] u1 u2 → Grow u2 w.heap.size 3 1 PA l.length pc (ints l)) := Lib.hid (fun u1 u2 q1 q2 => (HG.out.step q1).only q2 (fun x hx => ⟨(HG.out.step q1).lt x hx, fun r => by simp at r; exact (HS.out.2.xlt x (by simp [hx])).2 r⟩))
      have hRo : R ≠ .out := by rw [← hR]; unfold emit; split <;> simp
      clear hp41 hR
      go_wp2_with fail
      (with_reducible refine HI41.out.mono ?_)
      rintro e u1 ⟨rfl, hb1⟩
      have HB1 := Lib.hid hb1
      clear hb1
      go_wp2_with fail
      (with_reducible refine (HNXT.out _ HB1.out).mono ?_)
      rintro e u2 ⟨v2, rfl, hs2, hO2⟩
      have HS2 := Lib.hid hs2
      have HG2 := Lib.hid (HGN.out u1 u2 HB1.out hO2)
      have HO2 : Hid (Only w.heap.size (B :: gOf NA) w u2) := Lib.hid ((HO.out.sub (Only.of_below HB1.out []) hOz (fun x hx => by cases hx)).sub hO2 (Nat.le_trans hOz HB1.out.size) (fun x hx => .inl (by simp at hx; simp [hx])))
      clear hs2 hO2
      cases R with
      | out => exact absurd rfl hRo
      | bad o =>
        go_wp2_with fail
        (with_reducible refine (HADD.out _ HS2.out HG2.out).mono ?_)
        rintro e u3 hg
        have HG3 := Lib.hid (hg.comp HO2.out HSb.out)
        obtain ⟨rfl, q1, q2⟩ := hg
        clear q1 q2
        go_wp2_with fail
        exact ⟨rfl, HG3.out⟩
      | ok v a4 n4 =>
        go_wp2_with fail
        (with_reducible refine (HADD.out _ HS2.out HG2.out).mono ?_)
        rintro e u3 hg
        have HG3 := Lib.hid (hg.comp HO2.out HSb.out)
        obtain ⟨NA', nc', rfl, q1, q2, q3⟩ := hg
        clear q1 q2 q3
        go_wp2_with fail
        go_ret
        exact HG3.out
    · rw [show decide (pk Ts a1 = [41]) = false by simp [hn41]] at HI41
      obtain ⟨f', rfl⟩ : ∃ f', f = f' + 1 := ⟨f - 1, by omega⟩
      have HGR : Hid (∀ u2 u3, Grow u2 w.heap.size 3 1 PA l.length pc (ints l) → IpSt u2 B base TA tc Ts AA ac as_ (gOf PA ++ X) s d NA1 nc1 n1 → Only u2.heap.size (B :: gOf NA1) u2 u3 → Grow u3 w.heap.size 3 1 PA l.length pc (ints l)) := Lib.hid (fun u2 u3 q0 q1 q2 => q0.only q2 (fun x hx => ⟨q0.lt x hx, fun r => by
        rcases List.mem_cons.1 r with r | r
        · exact (q1.2.xlt x (by simp [hx])).2 r
        · exact (q1.2.apN x r).2.2 (by simp [hx])⟩))
      have HSX : Hid (∀ x, x ∈ B :: gOf NA1 → x ∈ B :: gOf NA ∨ w.heap.size ≤ x) := Lib.hid (fun x hx => by
        rcases List.mem_cons.1 hx with rfl | hx
        · exact .inl (by simp)
        · exact (HSb.out x hx).imp (fun q => List.mem_cons_of_mem _ q) id)
      rcases hls with ⟨hl0, rfl⟩ | ⟨hl0, rfl, hp44⟩
      · have hl1 : ¬ (0 : Int) < l.length := by rw [hl0]; simp
        have hl1' : l.length = 0 := by rw [hl0]; rfl
        have h3 : ¬ l.length = 3 := by omega
        have e3 : ((l.length : Int) == 3) = false := by rw [beq_eq_false_iff_ne]; omega
        clear hl0 hn41
        have hE := prs_ends hk.ok f' (.bin true) (d + 1) s n1 hs1 (by show 3 + _ ≤ f'; omega)
        have HEX : Hid (∀ wx, IpSt wx B base TA tc Ts AA ac as_ (gOf PA ++ X) s d NA1 nc1 n1 → Calls Tryz.prog 50 #[.pointer (some ⟨B, 0, none⟩)] wx (IGo B base TA tc Ts AA ac as_ (gOf PA ++ X) d NA1 (prs Ts f' (.bin true) (d + 1) s n1) wx)) := Lib.hid (fun wx hx => I_bin hk (fun m hm => ih m (by omega)) true wx hx hs1 hd (by show 3 + _ ≤ f'; omega))
        cases hr : prs Ts f' (.bin true) (d + 1) s n1 with
        | out => exact absurd hr hE.1
        | bad o =>
          rw [prs_argsB hnl h3 hr] at hR
          subst hR
          rw [hr] at HEX
          clear hr hE hnl hl1'
          go_wp2_with fail
          (with_reducible refine HI41.out.mono ?_)
          rintro e u2 ⟨rfl, hb2⟩
          have HS2 := Lib.hid (HS.out.step hb2)
          have HO2 : Hid (Only w.heap.size (B :: gOf NA) w u2) := Lib.hid (HO.out.sub (Only.of_below hb2 []) hOz (fun x hx => by cases hx))
          have HG2 := Lib.hid (HG.out.step hb2)
          clear hb2
          go_wp2_with fail
          (with_reducible refine (HEX.out _ HS2.out).mono ?_)
          rintro e u3 ⟨rfl, q1, q2⟩
          have Q1 := Lib.hid q1
          have Q2 : Hid (Only w.heap.size (B :: gOf NA) w u3) := Lib.hid (HO2.out.sub q2 HO2.out.size (HSX.out))
          clear q1 q2
          go_wp2_with fail
          exact ⟨rfl, rfl, Q1.out, Q2.out⟩
        | ok v a3 n3 =>
          rw [hr] at HEX
          have h6 := hE.2 v a3 n3 hr
          have h6' : s + 1 ≤ a3 ∧ a3 < Ts.length := h6
          have HAPD : Hid (∀ (u2 u3 u4 : World) (NA2 : Option Addr) (nc2 : Nat) (ob : Obj) (A' : Option Addr) (c' : Nat), Only w.heap.size (B :: gOf NA) w u2 → IpSt u3 B base TA tc Ts AA ac as_ (gOf PA ++ X) a3 d NA2 nc2 n3 → Only u2.heap.size (B :: gOf NA1) u2 u3 → (∀ x, x ∈ gOf NA2 → x ∈ gOf NA1 ∨ u2.heap.size ≤ x) →
              Appended (u3.alloc ob) w.heap.size 3 1 PA l.length (ints l ++ ints [v]) A' (l.length + 1) c' u4 → IpSt u4 B base TA tc Ts AA ac as_ (gOf A' ++ X) a3 d NA2 nc2 n3 ∧ Grow u4 w.heap.size 3 1 A' (l ++ [v]).length c' (ints (l ++ [v])) ∧ Only w.heap.size (B :: gOf NA) w u4 ∧ (∀ x, x ∈ gOf NA2 → x ∈ gOf NA ∨ w.heap.size ≤ x)) := Lib.hid (fun u2 u3 u4 NA2 nc2 ob A' c' q0 q1 q2 q3 gA => by
            obtain ⟨r1, r2⟩ := PGo.after (B := B) q0 HSb.out q2 q3 ob
            refine ⟨(q1.alloc ob).app gA, ?_, r1.app gA HGE.out, r2⟩
            have := gA.1
            rw [show ints l ++ ints [v] = ints (l ++ [v]) by simp [ints]] at this
            rw [show (l ++ [v]).length = l.length + 1 by simp]
            exact this)
          have hl2 : l.length ≤ 2 := by omega
          have HL2 := Lib.hid hl2
          have HIX : Hid (∀ x, x ≠ [] → ∀ (wx : World) (NA2 : Option Addr) (nc2 : Nat) (Y : List Nat), IpSt wx B base TA tc Ts AA ac as_ Y a3 d NA2 nc2 n3 → Calls Tryz.prog 75 #[.pointer (some ⟨B, 0, none⟩), str x] wx fun e w' => e = .returned (.bool (decide (pk Ts a3 = x))) ∧ Below wx.heap.size wx w') := Lib.hid (fun x hx wx NA2 nc2 Y q => I_is x wx q h6'.2 hx)
          by_cases hp44 : pk Ts a3 = [44]
          · rw [prs_argsN hnl h3 hr hp44] at hR
            have hin := pk_in hk.ok h6'.2 (by rw [hp44]; simp)
            have HNX : Hid (∀ (u5 : World) (NA2 : Option Addr) (nc2 : Nat) (A' : Option Addr) (c' : Nat), IpSt u5 B base TA tc Ts AA ac as_ (gOf A' ++ X) a3 d NA2 nc2 n3 → Grow u5 w.heap.size 3 1 A' (l ++ [v]).length c' (ints (l ++ [v])) → Only w.heap.size (B :: gOf NA) w u5 → (∀ x, x ∈ gOf NA2 → x ∈ gOf NA ∨ w.heap.size ≤ x) → CaInv B base TA tc Ts AA ac as_ X NA n d name R w (gk - 1) (l ++ [v]) A' c' u5) := Lib.hid (fun u5 NA2 nc2 A' c' q1 q2 q3 q4 =>
              ⟨a3, NA2, nc2, n3, q1, h6'.2, by simp; omega, q2, q3, q4, .inr ⟨f', a3 + 1, hR, hin, by omega, by omega, by omega, (by rw [hp44]; decide), (fun q => by simp at q), .inr ⟨by simp, rfl, hp44⟩⟩⟩)
            have HI : Hid (∀ (wx : World) (NA2 : Option Addr) (nc2 : Nat) (Y : List Nat), IpSt wx B base TA tc Ts AA ac as_ Y a3 d NA2 nc2 n3 → Calls Tryz.prog 75 #[.pointer (some ⟨B, 0, none⟩), .string ⟨#[44]⟩] wx fun e w' => e = .returned (.bool true) ∧ Below wx.heap.size wx w') := Lib.hid (fun wx NA2 nc2 Y q => by have := HIX.out [44] (by simp) wx NA2 nc2 Y q; rw [show decide (pk Ts a3 = [44]) = true by simp [hp44]] at this; exact this)
            clear hr hE hnl hl1' hp44 hR HIX
            go_wp2_with fail
            (with_reducible refine HI41.out.mono ?_)
            rintro e u2 ⟨rfl, hb2⟩
            have HS2 := Lib.hid (HS.out.step hb2)
            have HO2 : Hid (Only w.heap.size (B :: gOf NA) w u2) := Lib.hid (HO.out.sub (Only.of_below hb2 []) hOz (fun x hx => by cases hx))
            have HG2 := Lib.hid (HG.out.step hb2)
            clear hb2
            go_wp2_with fail
            (with_reducible refine (HEX.out _ HS2.out).mono ?_)
            rintro e u3 ⟨NA2, nc2, rfl, hs3, hO3, hS3⟩
            have HS3 := Lib.hid hs3
            have HO3 := Lib.hid hO3
            have HS3b := Lib.hid hS3
            have HG3 := Lib.hid (HGR.out u2 u3 HG2.out HS2.out hO3)
            have hz3 : w.heap.size ≤ u3.heap.size := Nat.le_trans HO2.out.size hO3.size
            clear hs3 hO3 hS3
            go_wp2_with (first | (at_builtin; refine wpList_app (by rfl) _ _ 37 (by rfl) (w.heap.size) 3 (.int .i64 0) 1 8 Tryz.underlying37 T.infoInt rfl (by decide) (xs := ints l) (by rfl) ?_ (ys := ints [v]) (by rfl) ?_ (ints_one _) ?_ ?_ ?_ ?_; (exact (by repeat (first | (with_reducible exact HG3.out) | (with_reducible refine Grow.alloc ?_ _) | (with_reducible refine Grow.drewN ?_ _) | (with_reducible refine Grow.drew ?_) | ((with_reducible refine Grow.far ?_ ?_ _); rotate_left; (first | omega | (simp <;> omega))) | (with_reducible refine Grow.step (by assumption) ?_)))); (exact (Grow.rs (base := 0) (n := 1) (c := 1) (by repeat (first | (with_reducible refine Grow.drewN ?_ _) | (with_reducible refine Grow.drew ?_) | (refine Grow.lit_at (by simp) (by rfl) (Nat.zero_le _) (by unfold maxLen; omega)))))); (unfold maxLen; omega); (omega); (first | omega | (simp <;> omega)); rintro A' c' w2 gA; obtain ⟨z1, z2, z3, z4⟩ := HAPD.out _ _ _ _ _ _ _ _ HO2.out HS3.out HO3.out HS3b.out gA; have HS4 := Lib.hid z1; have HG4 := Lib.hid z2; have HO4 := Lib.hid z3; have HSb4 := Lib.hid z4; clear gA z1 z2 z3 z4) | fail)
            (with_reducible refine (HI.out _ _ _ _ HS4.out).mono ?_)
            rintro e u5 ⟨rfl, hb5⟩
            have HV5 : Hid (CaInv B base TA tc Ts AA ac as_ X NA n d name R w (gk - 1) (l ++ [v]) A' c' u5) := Lib.hid (HNX.out u5 NA2 nc2 A' c' (HS4.out.step hb5) (HG4.out.step hb5) (HO4.out.sub (Only.of_below hb5 []) HO4.out.size (fun x hx => by cases hx)) HSb4.out)
            clear hb5
            go_wp2_with fail
            go_roundg (gk - 1)
            case measure => omega
            case rel => exact ⟨l ++ [v], _, _, by rw [List.length_append]; rfl, HV5.out⟩
          · by_cases hp41 : pk Ts a3 = [41]
            · rw [prs_argsE hnl h3 hr hp44 hp41] at hR
              have HNX : Hid (∀ (u5 : World) (NA2 : Option Addr) (nc2 : Nat) (A' : Option Addr) (c' : Nat), IpSt u5 B base TA tc Ts AA ac as_ (gOf A' ++ X) a3 d NA2 nc2 n3 → Grow u5 w.heap.size 3 1 A' (l ++ [v]).length c' (ints (l ++ [v])) → Only w.heap.size (B :: gOf NA) w u5 → (∀ x, x ∈ gOf NA2 → x ∈ gOf NA ∨ w.heap.size ≤ x) → CaInv B base TA tc Ts AA ac as_ X NA n d name R w (gk - 1) (l ++ [v]) A' c' u5) := Lib.hid (fun u5 NA2 nc2 A' c' q1 q2 q3 q4 =>
                ⟨a3, NA2, nc2, n3, q1, h6'.2, by simp; omega, q2, q3, q4, .inl ⟨hp41, hR⟩⟩)
              have HI : Hid (∀ (wx : World) (NA2 : Option Addr) (nc2 : Nat) (Y : List Nat), IpSt wx B base TA tc Ts AA ac as_ Y a3 d NA2 nc2 n3 → Calls Tryz.prog 75 #[.pointer (some ⟨B, 0, none⟩), .string ⟨#[44]⟩] wx fun e w' => e = .returned (.bool false) ∧ Below wx.heap.size wx w') := Lib.hid (fun wx NA2 nc2 Y q => by have := HIX.out [44] (by simp) wx NA2 nc2 Y q; rw [show decide (pk Ts a3 = [44]) = false by simp [hp44]] at this; exact this)
              have HI2 : Hid (∀ (wx : World) (NA2 : Option Addr) (nc2 : Nat) (Y : List Nat), IpSt wx B base TA tc Ts AA ac as_ Y a3 d NA2 nc2 n3 → Calls Tryz.prog 75 #[.pointer (some ⟨B, 0, none⟩), .string ⟨#[41]⟩] wx fun e w' => e = .returned (.bool true) ∧ Below wx.heap.size wx w') := Lib.hid (fun wx NA2 nc2 Y q => by have := HIX.out [41] (by simp) wx NA2 nc2 Y q; rw [show decide (pk Ts a3 = [41]) = true by simp [hp41]] at this; exact this)
              clear hr hE hnl hl1' hp44 hp41 hR HIX
              go_wp2_with fail
              (with_reducible refine HI41.out.mono ?_)
              rintro e u2 ⟨rfl, hb2⟩
              have HS2 := Lib.hid (HS.out.step hb2)
              have HO2 : Hid (Only w.heap.size (B :: gOf NA) w u2) := Lib.hid (HO.out.sub (Only.of_below hb2 []) hOz (fun x hx => by cases hx))
              have HG2 := Lib.hid (HG.out.step hb2)
              clear hb2
              go_wp2_with fail
              (with_reducible refine (HEX.out _ HS2.out).mono ?_)
              rintro e u3 ⟨NA2, nc2, rfl, hs3, hO3, hS3⟩
              have HS3 := Lib.hid hs3
              have HO3 := Lib.hid hO3
              have HS3b := Lib.hid hS3
              have HG3 := Lib.hid (HGR.out u2 u3 HG2.out HS2.out hO3)
              have hz3 : w.heap.size ≤ u3.heap.size := Nat.le_trans HO2.out.size hO3.size
              clear hs3 hO3 hS3
              go_wp2_with (first | (at_builtin; refine wpList_app (by rfl) _ _ 37 (by rfl) (w.heap.size) 3 (.int .i64 0) 1 8 Tryz.underlying37 T.infoInt rfl (by decide) (xs := ints l) (by rfl) ?_ (ys := ints [v]) (by rfl) ?_ (ints_one _) ?_ ?_ ?_ ?_; (exact (by repeat (first | (with_reducible exact HG3.out) | (with_reducible refine Grow.alloc ?_ _) | (with_reducible refine Grow.drewN ?_ _) | (with_reducible refine Grow.drew ?_) | ((with_reducible refine Grow.far ?_ ?_ _); rotate_left; (first | omega | (simp <;> omega))) | (with_reducible refine Grow.step (by assumption) ?_)))); (exact (Grow.rs (base := 0) (n := 1) (c := 1) (by repeat (first | (with_reducible refine Grow.drewN ?_ _) | (with_reducible refine Grow.drew ?_) | (refine Grow.lit_at (by simp) (by rfl) (Nat.zero_le _) (by unfold maxLen; omega)))))); (unfold maxLen; omega); (omega); (first | omega | (simp <;> omega)); rintro A' c' w2 gA; obtain ⟨z1, z2, z3, z4⟩ := HAPD.out _ _ _ _ _ _ _ _ HO2.out HS3.out HO3.out HS3b.out gA; have HS4 := Lib.hid z1; have HG4 := Lib.hid z2; have HO4 := Lib.hid z3; have HSb4 := Lib.hid z4; clear gA z1 z2 z3 z4) | fail)
              (with_reducible refine (HI.out _ _ _ _ HS4.out).mono ?_)
              rintro e u5 ⟨rfl, hb5⟩
              have HB5 := Lib.hid hb5
              clear hb5
              go_wp2_with fail
              (with_reducible refine (HI2.out _ _ _ _ (HS4.out.step HB5.out)).mono ?_)
              rintro e u6 ⟨rfl, hb6⟩
              have HB6 := Lib.hid (Below.step hb6 HB5.out HB5.out.size)
              have HV5 : Hid (CaInv B base TA tc Ts AA ac as_ X NA n d name R w (gk - 1) (l ++ [v]) A' c' u6) := Lib.hid (HNX.out u6 NA2 nc2 A' c' (HS4.out.step HB6.out) (HG4.out.step HB6.out) (HO4.out.sub (Only.of_below HB6.out []) HO4.out.size (fun x hx => by cases hx)) HSb4.out)
              clear hb6
              go_wp2_with fail
              go_roundg (gk - 1)
              case measure => omega
              case rel => exact ⟨l ++ [v], _, _, by rw [List.length_append]; rfl, HV5.out⟩
            · rw [prs_argsX hnl h3 hr hp44 hp41] at hR
              subst hR
              have HI : Hid (∀ (wx : World) (NA2 : Option Addr) (nc2 : Nat) (Y : List Nat), IpSt wx B base TA tc Ts AA ac as_ Y a3 d NA2 nc2 n3 → Calls Tryz.prog 75 #[.pointer (some ⟨B, 0, none⟩), .string ⟨#[44]⟩] wx fun e w' => e = .returned (.bool false) ∧ Below wx.heap.size wx w') := Lib.hid (fun wx NA2 nc2 Y q => by have := HIX.out [44] (by simp) wx NA2 nc2 Y q; rw [show decide (pk Ts a3 = [44]) = false by simp [hp44]] at this; exact this)
              have HI2 : Hid (∀ (wx : World) (NA2 : Option Addr) (nc2 : Nat) (Y : List Nat), IpSt wx B base TA tc Ts AA ac as_ Y a3 d NA2 nc2 n3 → Calls Tryz.prog 75 #[.pointer (some ⟨B, 0, none⟩), .string ⟨#[41]⟩] wx fun e w' => e = .returned (.bool false) ∧ Below wx.heap.size wx w') := Lib.hid (fun wx NA2 nc2 Y q => by have := HIX.out [41] (by simp) wx NA2 nc2 Y q; rw [show decide (pk Ts a3 = [41]) = false by simp [hp41]] at this; exact this)
              have HNW : Hid (∀ (wx : World) (NA2 : Option Addr) (nc2 : Nat) (Y : List Nat), IpSt wx B base TA tc Ts AA ac as_ Y a3 d NA2 nc2 n3 → Calls Tryz.prog 46 #[.pointer (some ⟨B, 0, none⟩)] wx fun e w' => e = .returned (tkV Ts a3) ∧ Below wx.heap.size wx w') := Lib.hid (fun wx NA2 nc2 Y q => I_now wx q h6'.2)
              have HRJ : Hid (∀ wx, Calls Tryz.prog 48 #[.pointer (some ⟨B, 0, none⟩), tkV Ts a3] wx fun e w' => e = .panicked (rej (of_ Ts a3)) ∧ Below wx.heap.size wx w') := Lib.hid (fun wx => I_reject _ _ _ _ _ wx)
              clear hr hE hnl hl1' hp44 hp41 HIX
              generalize htk : tkV Ts a3 = tv at HNW HRJ
              clear htk
              generalize of_ Ts a3 = off at *
              go_wp2_with fail
              (with_reducible refine HI41.out.mono ?_)
              rintro e u2 ⟨rfl, hb2⟩
              have HS2 := Lib.hid (HS.out.step hb2)
              have HO2 : Hid (Only w.heap.size (B :: gOf NA) w u2) := Lib.hid (HO.out.sub (Only.of_below hb2 []) hOz (fun x hx => by cases hx))
              have HG2 := Lib.hid (HG.out.step hb2)
              clear hb2
              go_wp2_with fail
              (with_reducible refine (HEX.out _ HS2.out).mono ?_)
              rintro e u3 ⟨NA2, nc2, rfl, hs3, hO3, hS3⟩
              have HS3 := Lib.hid hs3
              have HO3 := Lib.hid hO3
              have HS3b := Lib.hid hS3
              have HG3 := Lib.hid (HGR.out u2 u3 HG2.out HS2.out hO3)
              have hz3 : w.heap.size ≤ u3.heap.size := Nat.le_trans HO2.out.size hO3.size
              clear hs3 hO3 hS3
              go_wp2_with (first | (at_builtin; refine wpList_app (by rfl) _ _ 37 (by rfl) (w.heap.size) 3 (.int .i64 0) 1 8 Tryz.underlying37 T.infoInt rfl (by decide) (xs := ints l) (by rfl) ?_ (ys := ints [v]) (by rfl) ?_ (ints_one _) ?_ ?_ ?_ ?_; (exact (by repeat (first | (with_reducible exact HG3.out) | (with_reducible refine Grow.alloc ?_ _) | (with_reducible refine Grow.drewN ?_ _) | (with_reducible refine Grow.drew ?_) | ((with_reducible refine Grow.far ?_ ?_ _); rotate_left; (first | omega | (simp <;> omega))) | (with_reducible refine Grow.step (by assumption) ?_)))); (exact (Grow.rs (base := 0) (n := 1) (c := 1) (by repeat (first | (with_reducible refine Grow.drewN ?_ _) | (with_reducible refine Grow.drew ?_) | (refine Grow.lit_at (by simp) (by rfl) (Nat.zero_le _) (by unfold maxLen; omega)))))); (unfold maxLen; omega); (omega); (first | omega | (simp <;> omega)); rintro A' c' w2 gA; obtain ⟨z1, z2, z3, z4⟩ := HAPD.out _ _ _ _ _ _ _ _ HO2.out HS3.out HO3.out HS3b.out gA; have HS4 := Lib.hid z1; have HG4 := Lib.hid z2; have HO4 := Lib.hid z3; have HSb4 := Lib.hid z4; clear gA z1 z2 z3 z4) | fail)
              (with_reducible refine (HI.out _ _ _ _ HS4.out).mono ?_)
              rintro e u5 ⟨rfl, hb5⟩
              have HB5 := Lib.hid hb5
              clear hb5
              go_wp2_with fail
              (with_reducible refine (HI2.out _ _ _ _ (HS4.out.step HB5.out)).mono ?_)
              rintro e u6 ⟨rfl, hb6⟩
              have HB6 := Lib.hid (Below.step hb6 HB5.out HB5.out.size)
              clear hb6
              go_wp2_with fail
              (with_reducible refine (HNW.out _ _ _ _ (HS4.out.step HB6.out)).mono ?_)
              rintro e u7 ⟨rfl, hb7⟩
              have HB7 := Lib.hid (Below.step hb7 HB6.out HB6.out.size)
              clear hb7
              go_wp2_with fail
              (with_reducible refine (HRJ.out _).mono ?_)
              rintro e u8 ⟨rfl, hb8⟩
              have HB8 := Lib.hid (Below.step hb8 HB7.out HB7.out.size)
              clear hb8
              go_wp2_with fail
              exact ⟨rfl, rfl, (HS4.out.step HB8.out).ownD, HO4.out.sub (Only.of_below HB8.out []) HO4.out.size (fun x hx => by cases hx)⟩
      · have hl1 : (0 : Int) < l.length := by have : l.length ≠ 0 := fun q => hl0 (List.length_eq_zero_iff.1 q); omega
        have HND : Hid (∀ wx, Below wo.heap.size wo wx → Calls Tryz.prog 49 #[.pointer (some ⟨B, 0, none⟩), .string ⟨#[44]⟩] wx (INeed B base TA tc Ts AA ac as_ (gOf PA ++ X) a1 d NA1 nc1 n1 true wx)) := Lib.hid (fun wx hb => by have := I_need [44] wx (HS.out.step hb) ha1 hlen (by simp); rw [show decide (pk Ts a1 = [44]) = true by simp [hp44]] at this; exact this)
        have HG1 : Hid (∀ u1 u2, Below wo.heap.size wo u1 → Only u1.heap.size [B] u1 u2 → Grow u2 w.heap.size 3 1 PA l.length pc (ints l)) := Lib.hid (fun u1 u2 q1 q2 => (HG.out.step q1).only q2 (fun x hx => ⟨(HG.out.step q1).lt x hx, fun r => by simp at r; exact (HS.out.2.xlt x (by simp [hx])).2 r⟩))
        clear hl0 hp44 hn41
        by_cases h3 : l.length = 3
        · have e3 : ((l.length : Int) == 3) = true := by rw [h3]; rfl
          rw [prs_args3 hnl h3] at hR
          subst hR
          have HNW : Hid (∀ wx, IpSt wx B base TA tc Ts AA ac as_ (gOf PA ++ X) (a1 + 1) d NA1 nc1 n1 → Calls Tryz.prog 46 #[.pointer (some ⟨B, 0, none⟩)] wx fun e w' => e = .returned (tkV Ts (a1 + 1)) ∧ Below wx.heap.size wx w') := Lib.hid (fun wx q => I_now wx q hs1)
          have HRJ : Hid (∀ wx, Calls Tryz.prog 48 #[.pointer (some ⟨B, 0, none⟩), tkV Ts (a1 + 1)] wx fun e w' => e = .panicked (rej (of_ Ts (a1 + 1))) ∧ Below wx.heap.size wx w') := Lib.hid (fun wx => I_reject _ _ _ _ _ wx)
          clear hnl h3
          generalize htk : tkV Ts (a1 + 1) = tv at HNW HRJ
          clear htk
          generalize of_ Ts (a1 + 1) = off at *
          go_wp2_with fail
          (with_reducible refine HI41.out.mono ?_)
          rintro e u1 ⟨rfl, hb1⟩
          have HB1 := Lib.hid hb1
          clear hb1
          go_wp2_with fail
          (with_reducible refine (HND.out _ HB1.out).mono ?_)
          rintro e u2 ⟨hO2, rfl, hs2⟩
          have HS2 := Lib.hid hs2
          have HO2 : Hid (Only w.heap.size (B :: gOf NA) w u2) := Lib.hid ((HO.out.sub (Only.of_below HB1.out []) hOz (fun x hx => by cases hx)).sub hO2 (Nat.le_trans hOz HB1.out.size) (fun x hx => .inl (by simp at hx; simp [hx])))
          have HG2 : Hid (Grow u2 w.heap.size 3 1 PA l.length pc (ints l)) := Lib.hid (HG1.out u1 u2 HB1.out hO2)
          clear hs2 hO2
          go_wp2_with fail
          (with_reducible refine (HNW.out _ HS2.out).mono ?_)
          rintro e u3 ⟨rfl, hb3⟩
          have HB3 := Lib.hid hb3
          clear hb3
          go_wp2_with fail
          (with_reducible refine (HRJ.out _).mono ?_)
          rintro e u4 ⟨rfl, hb4⟩
          have HB4 := Lib.hid (Below.step hb4 HB3.out HB3.out.size)
          clear hb4
          go_wp2_with fail
          exact ⟨rfl, rfl, (HS2.out.step HB4.out).ownD, HO2.out.sub (Only.of_below HB4.out []) HO2.out.size (fun x hx => by cases hx)⟩
        · have e3 : ((l.length : Int) == 3) = false := by rw [beq_eq_false_iff_ne]; omega
          obtain ⟨s, hse⟩ : ∃ s, a1 + 1 = s := ⟨_, rfl⟩
          rw [hse] at hR hs1 hf1 hnl HGR
          have HND : Hid (∀ wx, Below wo.heap.size wo wx → Calls Tryz.prog 49 #[.pointer (some ⟨B, 0, none⟩), .string ⟨#[44]⟩] wx fun e w' => Only wx.heap.size [B] wx w' ∧ e = .returned (.tuple #[]) ∧ IpSt w' B base TA tc Ts AA ac as_ (gOf PA ++ X) s d NA1 nc1 n1) := Lib.hid (fun wx hb => by rw [← hse]; exact HND.out wx hb)
          clear hse
          have hE := prs_ends hk.ok f' (.bin true) (d + 1) s n1 hs1 (by show 3 + _ ≤ f'; omega)
          have HEX : Hid (∀ wx, IpSt wx B base TA tc Ts AA ac as_ (gOf PA ++ X) s d NA1 nc1 n1 → Calls Tryz.prog 50 #[.pointer (some ⟨B, 0, none⟩)] wx (IGo B base TA tc Ts AA ac as_ (gOf PA ++ X) d NA1 (prs Ts f' (.bin true) (d + 1) s n1) wx)) := Lib.hid (fun wx hx => I_bin hk (fun m hm => ih m (by omega)) true wx hx hs1 hd (by show 3 + _ ≤ f'; omega))
          cases hr : prs Ts f' (.bin true) (d + 1) s n1 with
          | out => exact absurd hr hE.1
          | bad o =>
            rw [prs_argsB hnl h3 hr] at hR
            subst hR
            rw [hr] at HEX
            clear hr hE hnl
            go_wp2_with fail
            (with_reducible refine HI41.out.mono ?_)
            rintro e u1 ⟨rfl, hb1⟩
            have HB1 := Lib.hid hb1
            clear hb1
            go_wp2_with fail
            (with_reducible refine (HND.out _ HB1.out).mono ?_)
            rintro e u2 ⟨hO2, rfl, hs2⟩
            have HS2 := Lib.hid hs2
            have HO2 : Hid (Only w.heap.size (B :: gOf NA) w u2) := Lib.hid ((HO.out.sub (Only.of_below HB1.out []) hOz (fun x hx => by cases hx)).sub hO2 (Nat.le_trans hOz HB1.out.size) (fun x hx => .inl (by simp at hx; simp [hx])))
            have HG2 : Hid (Grow u2 w.heap.size 3 1 PA l.length pc (ints l)) := Lib.hid (HG1.out u1 u2 HB1.out hO2)
            clear hs2 hO2
            go_wp2_with fail
            (with_reducible refine (HEX.out _ HS2.out).mono ?_)
            rintro e u3 ⟨rfl, q1, q2⟩
            have Q1 := Lib.hid q1
            have Q2 : Hid (Only w.heap.size (B :: gOf NA) w u3) := Lib.hid (HO2.out.sub q2 HO2.out.size (HSX.out))
            clear q1 q2
            go_wp2_with fail
            exact ⟨rfl, rfl, Q1.out, Q2.out⟩
          | ok v a3 n3 =>
            rw [hr] at HEX
            have h6 := hE.2 v a3 n3 hr
            have h6' : s + 1 ≤ a3 ∧ a3 < Ts.length := h6
            have HAPD : Hid (∀ (u2 u3 u4 : World) (NA2 : Option Addr) (nc2 : Nat) (ob : Obj) (A' : Option Addr) (c' : Nat), Only w.heap.size (B :: gOf NA) w u2 → IpSt u3 B base TA tc Ts AA ac as_ (gOf PA ++ X) a3 d NA2 nc2 n3 → Only u2.heap.size (B :: gOf NA1) u2 u3 → (∀ x, x ∈ gOf NA2 → x ∈ gOf NA1 ∨ u2.heap.size ≤ x) →
                Appended (u3.alloc ob) w.heap.size 3 1 PA l.length (ints l ++ ints [v]) A' (l.length + 1) c' u4 → IpSt u4 B base TA tc Ts AA ac as_ (gOf A' ++ X) a3 d NA2 nc2 n3 ∧ Grow u4 w.heap.size 3 1 A' (l ++ [v]).length c' (ints (l ++ [v])) ∧ Only w.heap.size (B :: gOf NA) w u4 ∧ (∀ x, x ∈ gOf NA2 → x ∈ gOf NA ∨ w.heap.size ≤ x)) := Lib.hid (fun u2 u3 u4 NA2 nc2 ob A' c' q0 q1 q2 q3 gA => by
              obtain ⟨r1, r2⟩ := PGo.after (B := B) q0 HSb.out q2 q3 ob
              refine ⟨(q1.alloc ob).app gA, ?_, r1.app gA HGE.out, r2⟩
              have := gA.1
              rw [show ints l ++ ints [v] = ints (l ++ [v]) by simp [ints]] at this
              rw [show (l ++ [v]).length = l.length + 1 by simp]
              exact this)
            have hl2 : l.length ≤ 2 := by omega
            have HL2 := Lib.hid hl2
            have HIX : Hid (∀ x, x ≠ [] → ∀ (wx : World) (NA2 : Option Addr) (nc2 : Nat) (Y : List Nat), IpSt wx B base TA tc Ts AA ac as_ Y a3 d NA2 nc2 n3 → Calls Tryz.prog 75 #[.pointer (some ⟨B, 0, none⟩), str x] wx fun e w' => e = .returned (.bool (decide (pk Ts a3 = x))) ∧ Below wx.heap.size wx w') := Lib.hid (fun x hx wx NA2 nc2 Y q => I_is x wx q h6'.2 hx)
            by_cases hp44 : pk Ts a3 = [44]
            · rw [prs_argsN hnl h3 hr hp44] at hR
              have hin := pk_in hk.ok h6'.2 (by rw [hp44]; simp)
              have HNX : Hid (∀ (u5 : World) (NA2 : Option Addr) (nc2 : Nat) (A' : Option Addr) (c' : Nat), IpSt u5 B base TA tc Ts AA ac as_ (gOf A' ++ X) a3 d NA2 nc2 n3 → Grow u5 w.heap.size 3 1 A' (l ++ [v]).length c' (ints (l ++ [v])) → Only w.heap.size (B :: gOf NA) w u5 → (∀ x, x ∈ gOf NA2 → x ∈ gOf NA ∨ w.heap.size ≤ x) → CaInv B base TA tc Ts AA ac as_ X NA n d name R w (gk - 1) (l ++ [v]) A' c' u5) := Lib.hid (fun u5 NA2 nc2 A' c' q1 q2 q3 q4 =>
                ⟨a3, NA2, nc2, n3, q1, h6'.2, by simp; omega, q2, q3, q4, .inr ⟨f', a3 + 1, hR, hin, by omega, by omega, by omega, (by rw [hp44]; decide), (fun q => by simp at q), .inr ⟨by simp, rfl, hp44⟩⟩⟩)
              have HI : Hid (∀ (wx : World) (NA2 : Option Addr) (nc2 : Nat) (Y : List Nat), IpSt wx B base TA tc Ts AA ac as_ Y a3 d NA2 nc2 n3 → Calls Tryz.prog 75 #[.pointer (some ⟨B, 0, none⟩), .string ⟨#[44]⟩] wx fun e w' => e = .returned (.bool true) ∧ Below wx.heap.size wx w') := Lib.hid (fun wx NA2 nc2 Y q => by have := HIX.out [44] (by simp) wx NA2 nc2 Y q; rw [show decide (pk Ts a3 = [44]) = true by simp [hp44]] at this; exact this)
              clear hr hE hnl hp44 hR HIX
              go_wp2_with fail
              (with_reducible refine HI41.out.mono ?_)
              rintro e u1 ⟨rfl, hb1⟩
              have HB1 := Lib.hid hb1
              clear hb1
              go_wp2_with fail
              (with_reducible refine (HND.out _ HB1.out).mono ?_)
              rintro e u2 ⟨hO2, rfl, hs2⟩
              have HS2 := Lib.hid hs2
              have HO2 : Hid (Only w.heap.size (B :: gOf NA) w u2) := Lib.hid ((HO.out.sub (Only.of_below HB1.out []) hOz (fun x hx => by cases hx)).sub hO2 (Nat.le_trans hOz HB1.out.size) (fun x hx => .inl (by simp at hx; simp [hx])))
              have HG2 : Hid (Grow u2 w.heap.size 3 1 PA l.length pc (ints l)) := Lib.hid (HG1.out u1 u2 HB1.out hO2)
              clear hs2 hO2
              go_wp2_with fail
              (with_reducible refine (HEX.out _ HS2.out).mono ?_)
              rintro e u3 ⟨NA2, nc2, rfl, hs3, hO3, hS3⟩
              have HS3 := Lib.hid hs3
              have HO3 := Lib.hid hO3
              have HS3b := Lib.hid hS3
              have HG3 := Lib.hid (HGR.out u2 u3 HG2.out HS2.out hO3)
              have hz3 : w.heap.size ≤ u3.heap.size := Nat.le_trans HO2.out.size hO3.size
              clear hs3 hO3 hS3
              go_wp2_with (first | (at_builtin; refine wpList_app (by rfl) _ _ 37 (by rfl) (w.heap.size) 3 (.int .i64 0) 1 8 Tryz.underlying37 T.infoInt rfl (by decide) (xs := ints l) (by rfl) ?_ (ys := ints [v]) (by rfl) ?_ (ints_one _) ?_ ?_ ?_ ?_; (exact (by repeat (first | (with_reducible exact HG3.out) | (with_reducible refine Grow.alloc ?_ _) | (with_reducible refine Grow.drewN ?_ _) | (with_reducible refine Grow.drew ?_) | ((with_reducible refine Grow.far ?_ ?_ _); rotate_left; (first | omega | (simp <;> omega))) | (with_reducible refine Grow.step (by assumption) ?_)))); (exact (Grow.rs (base := 0) (n := 1) (c := 1) (by repeat (first | (with_reducible refine Grow.drewN ?_ _) | (with_reducible refine Grow.drew ?_) | (refine Grow.lit_at (by simp) (by rfl) (Nat.zero_le _) (by unfold maxLen; omega)))))); (unfold maxLen; omega); (omega); (first | omega | (simp <;> omega)); rintro A' c' w2 gA; obtain ⟨z1, z2, z3, z4⟩ := HAPD.out _ _ _ _ _ _ _ _ HO2.out HS3.out HO3.out HS3b.out gA; have HS4 := Lib.hid z1; have HG4 := Lib.hid z2; have HO4 := Lib.hid z3; have HSb4 := Lib.hid z4; clear gA z1 z2 z3 z4) | fail)
              (with_reducible refine (HI.out _ _ _ _ HS4.out).mono ?_)
              rintro e u5 ⟨rfl, hb5⟩
              have HV5 : Hid (CaInv B base TA tc Ts AA ac as_ X NA n d name R w (gk - 1) (l ++ [v]) A' c' u5) := Lib.hid (HNX.out u5 NA2 nc2 A' c' (HS4.out.step hb5) (HG4.out.step hb5) (HO4.out.sub (Only.of_below hb5 []) HO4.out.size (fun x hx => by cases hx)) HSb4.out)
              clear hb5
              go_wp2_with fail
              go_roundg (gk - 1)
              case measure => omega
              case rel => exact ⟨l ++ [v], _, _, by rw [List.length_append]; rfl, HV5.out⟩
            · by_cases hp41 : pk Ts a3 = [41]
              · rw [prs_argsE hnl h3 hr hp44 hp41] at hR
                have HNX : Hid (∀ (u5 : World) (NA2 : Option Addr) (nc2 : Nat) (A' : Option Addr) (c' : Nat), IpSt u5 B base TA tc Ts AA ac as_ (gOf A' ++ X) a3 d NA2 nc2 n3 → Grow u5 w.heap.size 3 1 A' (l ++ [v]).length c' (ints (l ++ [v])) → Only w.heap.size (B :: gOf NA) w u5 → (∀ x, x ∈ gOf NA2 → x ∈ gOf NA ∨ w.heap.size ≤ x) → CaInv B base TA tc Ts AA ac as_ X NA n d name R w (gk - 1) (l ++ [v]) A' c' u5) := Lib.hid (fun u5 NA2 nc2 A' c' q1 q2 q3 q4 =>
                  ⟨a3, NA2, nc2, n3, q1, h6'.2, by simp; omega, q2, q3, q4, .inl ⟨hp41, hR⟩⟩)
                have HI : Hid (∀ (wx : World) (NA2 : Option Addr) (nc2 : Nat) (Y : List Nat), IpSt wx B base TA tc Ts AA ac as_ Y a3 d NA2 nc2 n3 → Calls Tryz.prog 75 #[.pointer (some ⟨B, 0, none⟩), .string ⟨#[44]⟩] wx fun e w' => e = .returned (.bool false) ∧ Below wx.heap.size wx w') := Lib.hid (fun wx NA2 nc2 Y q => by have := HIX.out [44] (by simp) wx NA2 nc2 Y q; rw [show decide (pk Ts a3 = [44]) = false by simp [hp44]] at this; exact this)
                have HI2 : Hid (∀ (wx : World) (NA2 : Option Addr) (nc2 : Nat) (Y : List Nat), IpSt wx B base TA tc Ts AA ac as_ Y a3 d NA2 nc2 n3 → Calls Tryz.prog 75 #[.pointer (some ⟨B, 0, none⟩), .string ⟨#[41]⟩] wx fun e w' => e = .returned (.bool true) ∧ Below wx.heap.size wx w') := Lib.hid (fun wx NA2 nc2 Y q => by have := HIX.out [41] (by simp) wx NA2 nc2 Y q; rw [show decide (pk Ts a3 = [41]) = true by simp [hp41]] at this; exact this)
                clear hr hE hnl hp44 hp41 hR HIX
                go_wp2_with fail
                (with_reducible refine HI41.out.mono ?_)
                rintro e u1 ⟨rfl, hb1⟩
                have HB1 := Lib.hid hb1
                clear hb1
                go_wp2_with fail
                (with_reducible refine (HND.out _ HB1.out).mono ?_)
                rintro e u2 ⟨hO2, rfl, hs2⟩
                have HS2 := Lib.hid hs2
                have HO2 : Hid (Only w.heap.size (B :: gOf NA) w u2) := Lib.hid ((HO.out.sub (Only.of_below HB1.out []) hOz (fun x hx => by cases hx)).sub hO2 (Nat.le_trans hOz HB1.out.size) (fun x hx => .inl (by simp at hx; simp [hx])))
                have HG2 : Hid (Grow u2 w.heap.size 3 1 PA l.length pc (ints l)) := Lib.hid (HG1.out u1 u2 HB1.out hO2)
                clear hs2 hO2
                go_wp2_with fail
                (with_reducible refine (HEX.out _ HS2.out).mono ?_)
                rintro e u3 ⟨NA2, nc2, rfl, hs3, hO3, hS3⟩
                have HS3 := Lib.hid hs3
                have HO3 := Lib.hid hO3
                have HS3b := Lib.hid hS3
                have HG3 := Lib.hid (HGR.out u2 u3 HG2.out HS2.out hO3)
                have hz3 : w.heap.size ≤ u3.heap.size := Nat.le_trans HO2.out.size hO3.size
                clear hs3 hO3 hS3
                go_wp2_with (first | (at_builtin; refine wpList_app (by rfl) _ _ 37 (by rfl) (w.heap.size) 3 (.int .i64 0) 1 8 Tryz.underlying37 T.infoInt rfl (by decide) (xs := ints l) (by rfl) ?_ (ys := ints [v]) (by rfl) ?_ (ints_one _) ?_ ?_ ?_ ?_; (exact (by repeat (first | (with_reducible exact HG3.out) | (with_reducible refine Grow.alloc ?_ _) | (with_reducible refine Grow.drewN ?_ _) | (with_reducible refine Grow.drew ?_) | ((with_reducible refine Grow.far ?_ ?_ _); rotate_left; (first | omega | (simp <;> omega))) | (with_reducible refine Grow.step (by assumption) ?_)))); (exact (Grow.rs (base := 0) (n := 1) (c := 1) (by repeat (first | (with_reducible refine Grow.drewN ?_ _) | (with_reducible refine Grow.drew ?_) | (refine Grow.lit_at (by simp) (by rfl) (Nat.zero_le _) (by unfold maxLen; omega)))))); (unfold maxLen; omega); (omega); (first | omega | (simp <;> omega)); rintro A' c' w2 gA; obtain ⟨z1, z2, z3, z4⟩ := HAPD.out _ _ _ _ _ _ _ _ HO2.out HS3.out HO3.out HS3b.out gA; have HS4 := Lib.hid z1; have HG4 := Lib.hid z2; have HO4 := Lib.hid z3; have HSb4 := Lib.hid z4; clear gA z1 z2 z3 z4) | fail)
                (with_reducible refine (HI.out _ _ _ _ HS4.out).mono ?_)
                rintro e u5 ⟨rfl, hb5⟩
                have HB5 := Lib.hid hb5
                clear hb5
                go_wp2_with fail
                (with_reducible refine (HI2.out _ _ _ _ (HS4.out.step HB5.out)).mono ?_)
                rintro e u6 ⟨rfl, hb6⟩
                have HB6 := Lib.hid (Below.step hb6 HB5.out HB5.out.size)
                have HV5 : Hid (CaInv B base TA tc Ts AA ac as_ X NA n d name R w (gk - 1) (l ++ [v]) A' c' u6) := Lib.hid (HNX.out u6 NA2 nc2 A' c' (HS4.out.step HB6.out) (HG4.out.step HB6.out) (HO4.out.sub (Only.of_below HB6.out []) HO4.out.size (fun x hx => by cases hx)) HSb4.out)
                clear hb6
                go_wp2_with fail
                go_roundg (gk - 1)
                case measure => omega
                case rel => exact ⟨l ++ [v], _, _, by rw [List.length_append]; rfl, HV5.out⟩
              · rw [prs_argsX hnl h3 hr hp44 hp41] at hR
                subst hR
                have HI : Hid (∀ (wx : World) (NA2 : Option Addr) (nc2 : Nat) (Y : List Nat), IpSt wx B base TA tc Ts AA ac as_ Y a3 d NA2 nc2 n3 → Calls Tryz.prog 75 #[.pointer (some ⟨B, 0, none⟩), .string ⟨#[44]⟩] wx fun e w' => e = .returned (.bool false) ∧ Below wx.heap.size wx w') := Lib.hid (fun wx NA2 nc2 Y q => by have := HIX.out [44] (by simp) wx NA2 nc2 Y q; rw [show decide (pk Ts a3 = [44]) = false by simp [hp44]] at this; exact this)
                have HI2 : Hid (∀ (wx : World) (NA2 : Option Addr) (nc2 : Nat) (Y : List Nat), IpSt wx B base TA tc Ts AA ac as_ Y a3 d NA2 nc2 n3 → Calls Tryz.prog 75 #[.pointer (some ⟨B, 0, none⟩), .string ⟨#[41]⟩] wx fun e w' => e = .returned (.bool false) ∧ Below wx.heap.size wx w') := Lib.hid (fun wx NA2 nc2 Y q => by have := HIX.out [41] (by simp) wx NA2 nc2 Y q; rw [show decide (pk Ts a3 = [41]) = false by simp [hp41]] at this; exact this)
                have HNW : Hid (∀ (wx : World) (NA2 : Option Addr) (nc2 : Nat) (Y : List Nat), IpSt wx B base TA tc Ts AA ac as_ Y a3 d NA2 nc2 n3 → Calls Tryz.prog 46 #[.pointer (some ⟨B, 0, none⟩)] wx fun e w' => e = .returned (tkV Ts a3) ∧ Below wx.heap.size wx w') := Lib.hid (fun wx NA2 nc2 Y q => I_now wx q h6'.2)
                have HRJ : Hid (∀ wx, Calls Tryz.prog 48 #[.pointer (some ⟨B, 0, none⟩), tkV Ts a3] wx fun e w' => e = .panicked (rej (of_ Ts a3)) ∧ Below wx.heap.size wx w') := Lib.hid (fun wx => I_reject _ _ _ _ _ wx)
                clear hr hE hnl hp44 hp41 HIX
                generalize htk : tkV Ts a3 = tv at HNW HRJ
                clear htk
                generalize of_ Ts a3 = off at *
                go_wp2_with fail
                (with_reducible refine HI41.out.mono ?_)
                rintro e u1 ⟨rfl, hb1⟩
                have HB1 := Lib.hid hb1
                clear hb1
                go_wp2_with fail
                (with_reducible refine (HND.out _ HB1.out).mono ?_)
                rintro e u2 ⟨hO2, rfl, hs2⟩
                have HS2 := Lib.hid hs2
                have HO2 : Hid (Only w.heap.size (B :: gOf NA) w u2) := Lib.hid ((HO.out.sub (Only.of_below HB1.out []) hOz (fun x hx => by cases hx)).sub hO2 (Nat.le_trans hOz HB1.out.size) (fun x hx => .inl (by simp at hx; simp [hx])))
                have HG2 : Hid (Grow u2 w.heap.size 3 1 PA l.length pc (ints l)) := Lib.hid (HG1.out u1 u2 HB1.out hO2)
                clear hs2 hO2
                go_wp2_with fail
                (with_reducible refine (HEX.out _ HS2.out).mono ?_)
                rintro e u3 ⟨NA2, nc2, rfl, hs3, hO3, hS3⟩
                have HS3 := Lib.hid hs3
                have HO3 := Lib.hid hO3
                have HS3b := Lib.hid hS3
                have HG3 := Lib.hid (HGR.out u2 u3 HG2.out HS2.out hO3)
                have hz3 : w.heap.size ≤ u3.heap.size := Nat.le_trans HO2.out.size hO3.size
                clear hs3 hO3 hS3
                go_wp2_with (first | (at_builtin; refine wpList_app (by rfl) _ _ 37 (by rfl) (w.heap.size) 3 (.int .i64 0) 1 8 Tryz.underlying37 T.infoInt rfl (by decide) (xs := ints l) (by rfl) ?_ (ys := ints [v]) (by rfl) ?_ (ints_one _) ?_ ?_ ?_ ?_; (exact (by repeat (first | (with_reducible exact HG3.out) | (with_reducible refine Grow.alloc ?_ _) | (with_reducible refine Grow.drewN ?_ _) | (with_reducible refine Grow.drew ?_) | ((with_reducible refine Grow.far ?_ ?_ _); rotate_left; (first | omega | (simp <;> omega))) | (with_reducible refine Grow.step (by assumption) ?_)))); (exact (Grow.rs (base := 0) (n := 1) (c := 1) (by repeat (first | (with_reducible refine Grow.drewN ?_ _) | (with_reducible refine Grow.drew ?_) | (refine Grow.lit_at (by simp) (by rfl) (Nat.zero_le _) (by unfold maxLen; omega)))))); (unfold maxLen; omega); (omega); (first | omega | (simp <;> omega)); rintro A' c' w2 gA; obtain ⟨z1, z2, z3, z4⟩ := HAPD.out _ _ _ _ _ _ _ _ HO2.out HS3.out HO3.out HS3b.out gA; have HS4 := Lib.hid z1; have HG4 := Lib.hid z2; have HO4 := Lib.hid z3; have HSb4 := Lib.hid z4; clear gA z1 z2 z3 z4) | fail)
                (with_reducible refine (HI.out _ _ _ _ HS4.out).mono ?_)
                rintro e u5 ⟨rfl, hb5⟩
                have HB5 := Lib.hid hb5
                clear hb5
                go_wp2_with fail
                (with_reducible refine (HI2.out _ _ _ _ (HS4.out.step HB5.out)).mono ?_)
                rintro e u6 ⟨rfl, hb6⟩
                have HB6 := Lib.hid (Below.step hb6 HB5.out HB5.out.size)
                clear hb6
                go_wp2_with fail
                (with_reducible refine (HNW.out _ _ _ _ (HS4.out.step HB6.out)).mono ?_)
                rintro e u7 ⟨rfl, hb7⟩
                have HB7 := Lib.hid (Below.step hb7 HB6.out HB6.out.size)
                clear hb7
                go_wp2_with fail
                (with_reducible refine (HRJ.out _).mono ?_)
                rintro e u8 ⟨rfl, hb8⟩
                have HB8 := Lib.hid (Below.step hb8 HB7.out HB7.out.size)
                clear hb8
                go_wp2_with fail
                exact ⟨rfl, rfl, (HS4.out.step HB8.out).ownD, HO4.out.sub (Only.of_below HB8.out []) HO4.out.size (fun x hx => by cases hx)⟩
end Go.Proofs.YtnlbojckobgjpaaGreatDoor
