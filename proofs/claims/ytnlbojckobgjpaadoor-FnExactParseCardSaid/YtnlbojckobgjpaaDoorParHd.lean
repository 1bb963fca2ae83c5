/- The law's marks on programs: are they held? -/
import Derived.Test.YtnlbojckobgjpaaDoorParMw
import Derived.Deep.RegionHeld3
namespace Go.Proofs.YtnlbojckobgjpaaDoor
open Go.RowKit Go.Lib
set_option linter.unusedVariables false
set_option linter.unusedSimpArgs false
set_option maxRecDepth 100000
set_option maxHeartbeats 2000000 in
theorem L_heldNodeS {base : Nat} {NA : Option Addr} {nc : Nat} {ns : List ENode} {AA : Option Addr} {ac : Nat} {as_ : List EAssign} {k : Nat} (w : World) (h : ProgM w base NA nc (mkN k ns) AA ac as_) (hx : ∀ x, x ∈ ns → x.2.2.2.length ≤ 3) (h0 : 0 < k) (h1 : k ≤ 1048576) :
    Calls Tryd.prog 20 #[.slice NA ns.length nc, .int .i64 k] w fun e w' => e = .returned (.int .i64 ((k + szN ns : Nat) : Int)) ∧ Below w.heap.size w w' := by
  have hcap := h.2.2.2.1
  rw [mkN_len] at hcap
  have HP := Lib.hid h
  have HX := Lib.hid hx
  clear h hx
  go_enter Tryd.func20, Tryd.ntmps20
  go_wp2_with fail
  go_loopw [1, 5] (fun q i wr => ∃ m : Nat, m ≤ ns.length ∧ q = .int .i64 ((k + szN (ns.take m) : Nat) : Int) ∧ i = .int .i64 m ∧ Below w.heap.size w wr) (fun _ i _ => ns.length - (RowKit.intOf i).toNat)
  case atStart => exact ⟨0, Nat.zero_le _, by simp [szN], rfl, Below.refl _ _⟩
  case round =>
    obtain ⟨m, hm, rfl, rfl, hbw⟩ := hrel
    obtain ⟨wo, rfl⟩ : ∃ wo, wo = wr := ⟨_, rfl⟩
    have hz := hbw.size
    have HBm := Lib.hid hbw
    clear hbw
    by_cases hlt : m < ns.length
    · have hlm : m < (mkN k ns).length := by rw [mkN_len]; exact hlt
      obtain ⟨g, cs, ds, A, c, hNA, hbg, ho, hlen, hnc, hmax, hcs, hr, hAg, hch⟩ := HP.out.open_ hlm
      have hat := mkN_at (k := k) hlt
      rw [hat] at hcs hr
      rw [mkN_len] at hlen hnc
      subst hNA
      have hargs := HX.out _ (List.getElem_mem hlt)
      have hsz : szN (ns.take m) ≤ m * 6 := by
        have := szN_le (ns := ns.take m) (b := 3) (fun x hx => HX.out x (List.mem_of_mem_take hx))
        rw [List.length_take] at this
        have h2 : min m ns.length * (3 + 3) = m * 6 := by rw [Nat.min_eq_left hm]
        omega
      have hsuc := szN_succ hlt
      obtain ⟨K, hK⟩ : ∃ K, k + szN (ns.take m) = K := ⟨_, rfl⟩
      have hKb : K ≤ 2097152 := by omega
      have hK0 : 0 < K := by omega
      obtain ⟨n, hn⟩ : ∃ n, ns[m].2.2.2.length = n := ⟨_, rfl⟩
      rw [hn] at hargs hsuc
      rw [hK] at hcs hr ⊢
      have hul : ∀ z : Int, (upFrom z n).length = n := fun z => by simp [upFrom]
      have hcs2 : (cs.drop (m * 4)).take 4 = [.int .i64 K, str (markT (K + 1)), .int .i64 ((K : Int) + 2), .slice A n c] := by
        rw [hcs]
        simp only [mk1, hn, hul]
        rw [show ((K + 2 : Nat) : Int) = (K : Int) + 2 by omega]
      have hr2 : OwnS w 1 A n c 3 (ints (upFrom ((K : Int) + 3) n)) := by
        have := hr
        simp only [mk1, hn, hul] at this
        rw [show ((K + 3 : Nat) : Int) = (K : Int) + 3 by omega] at this
        exact this
      obtain ⟨T, hT⟩ : ∃ T, markT (K + 1) = T := ⟨_, rfl⟩
      have HMT : Hid (∀ wx, Calls Tryd.prog 34 #[.int .i64 ((K : Int) + 1)] wx fun e w' => e = .returned (str (markT (K + 1))) ∧ Below wx.heap.size wx w') := Lib.hid (fun wx => by have := L_markText (k := K + 1) wx (by omega) (by omega); rw [show ((K + 1 : Nat) : Int) = (K : Int) + 1 by omega] at this; exact this)
      rw [hT] at HMT hcs2
      obtain ⟨q0, q1, q2, q3⟩ := part_cells hcs2
      have l3 := some_lt q3
      have HO := Lib.hid ho
      have HR := Lib.hid hr2
      have hglt := ho.lt
      have d : ∀ j, m * 4 + j < cs.length → wo.cell? ⟨g, m * 4 + j, none⟩ = cs[m * 4 + j]? := fun j hj => by
        rw [HBm.out.cell (p := ⟨g, m * 4 + j, none⟩) hglt, ho.cell, List.getElem?_append_left hj]
      have d0 : wo.cell? ⟨g, m * 4, none⟩ = some (.int .i64 K) := by have := d 0 (by omega); exact this.trans q0
      have d1 : wo.cell? ⟨g, m * 4 + 1, none⟩ = some (str T) := (d 1 (by omega)).trans q1
      have d2 : wo.cell? ⟨g, m * 4 + 2, none⟩ = some (.int .i64 ((K : Int) + 2)) := (d 2 (by omega)).trans q2
      have d3 : wo.cell? ⟨g, m * 4 + 3, none⟩ = some (.slice A n c) := (d 3 (by omega)).trans q3
      have dl : g < wo.heap.size := by omega
      unfold maxLen at hmax
      have hw1 : IntKind.i64.wrap ((K : Int) + 1) = (K : Int) + 1 := IntWalk.i64_in _ (by omega)
      have hw2 : IntKind.i64.wrap ((K : Int) + 1 + 1) = (K : Int) + 2 := by rw [show (K : Int) + 1 + 1 = (K : Int) + 2 by omega]; exact IntWalk.i64_in _ (by omega)
      have hw3 : IntKind.i64.wrap ((K : Int) + 2 + 1) = (K : Int) + 3 := by rw [show (K : Int) + 2 + 1 = (K : Int) + 3 by omega]; exact IntWalk.i64_in _ (by omega)
      have hlt' : (m : Int) < ns.length := by omega
      have hTT : (T != T) = false := by simp
      have hnn : ¬ (K : Int) + 3 + n < 0 := by omega
      have HHI : Hid (∀ wx, OwnS wx 1 A n c 3 (ints (upFrom ((K : Int) + 3) n)) → Calls Tryd.prog 36 #[.slice A n c, .int .i64 ((K : Int) + 3)] wx fun e w' => e = .returned (.int .i64 ((K : Int) + 3 + n)) ∧ wx = w') := Lib.hid (fun wx hq => L_heldIntSG wx hq (by omega) (by omega) (by omega))
      have hKK : Hid ((K : Int) + 3 + n = ((k + szN (ns.take (m + 1)) : Nat) : Int)) := Lib.hid (by omega)
      clear ho hr hr2 hch hAg hat hcs hcs2 hT hsuc hsz d q0 q1 q2 q3 hul hn
      go_wp2_with fail
      go_region_held3 (fun w' => w'.cell? ⟨g, m * 4 + 1, none⟩ = some (str T))
        (first | ((try dsimp only); (go_simp; done)) | go_keep)
        (first | (go_at_call 34; (with_reducible refine (HMT.out _).mono ?_); rintro e w2 ⟨rfl, hb2⟩; have hz2 : wo.heap.size ≤ w2.heap.size := hb2.size; have c1 : w2.cell? ⟨g, m * 4 + 1, none⟩ = some (str T) := (hb2.cell (p := ⟨g, m * 4 + 1, none⟩) dl).trans d1; have c2 : w2.cell? ⟨g, m * 4 + 2, none⟩ = some (.int .i64 ((K : Int) + 2)) := (hb2.cell (p := ⟨g, m * 4 + 2, none⟩) dl).trans d2; have c3 : w2.cell? ⟨g, m * 4 + 3, none⟩ = some (.slice A n c) := (hb2.cell (p := ⟨g, m * 4 + 3, none⟩) dl).trans d3; have HB2 : Hid (Below w.heap.size w w2) := Lib.hid (Below.step hb2 (Below.drew HBm.out) hz); clear hb2) | fail)
      all_goals
        go_wp2_with fail
        (with_reducible refine (HHI.out _ (HR.out.step HB2.out)).mono ?_)
        rintro e w' ⟨rfl, rfl⟩
        go_wp2_with fail
        go_roundw
        case rel => exact ⟨m + 1, by omega, by rw [hKK.out], by go_num, HB2.out⟩
        case measure => simp [RowKit.intOf]; omega
    · obtain rfl : m = ns.length := by omega
      go_wp2_with fail
      go_ret
      rw [List.take_length]
      exact ⟨rfl, HBm.out⟩
set_option maxHeartbeats 2000000 in
theorem L_heldAssignmentS {base : Nat} {NA : Option Addr} {nc : Nat} {ns : List ENode} {AA : Option Addr} {ac : Nat} {as_ : List EAssign} {k : Nat} (w : World) (h : ProgM w base NA nc ns AA ac (mkA k as_)) (h0 : 0 < k) (h1 : k ≤ 1048576) :
    Calls Tryd.prog 21 #[.slice AA as_.length ac, .int .i64 k] w fun e w' => e = .returned (.int .i64 ((k + 2 * as_.length : Nat) : Int)) ∧ Below w.heap.size w w' := by
  have hcap := h.2.2.2.2
  rw [mkA_len] at hcap
  have HP := Lib.hid h
  clear h
  go_enter Tryd.func21, Tryd.ntmps21
  go_wp2_with fail
  go_loopw [1, 5] (fun q i wr => ∃ m : Nat, m ≤ as_.length ∧ q = .int .i64 ((k + 2 * m : Nat) : Int) ∧ i = .int .i64 m ∧ Below w.heap.size w wr) (fun _ i _ => as_.length - (RowKit.intOf i).toNat)
  case atStart => exact ⟨0, Nat.zero_le _, by simp, rfl, Below.refl _ _⟩
  case round =>
    obtain ⟨m, hm, rfl, rfl, hbw⟩ := hrel
    obtain ⟨wo, rfl⟩ : ∃ wo, wo = wr := ⟨_, rfl⟩
    have hz := hbw.size
    have HBm := Lib.hid hbw
    clear hbw
    by_cases hlt : m < as_.length
    · have hlm : m < (mkA k as_).length := by rw [mkA_len]; exact hlt
      obtain ⟨g, ds, hAA, hbg, ho, hnc, hmax, hch⟩ := HP.out.openA hlm
      have hat := rAss_at hlm
      have hln := rAss_len (mkA k as_)
      have hmk := mkA_at (k := k) hlt
      rw [hmk] at hat
      rw [mkA_len] at hnc hln
      subst hAA
      obtain ⟨K, hK⟩ : ∃ K, k + 2 * m = K := ⟨_, rfl⟩
      have hKb : K ≤ 3145728 := by omega
      have hK0 : 0 < K := by omega
      rw [hK] at hat ⊢
      obtain ⟨q0, q1⟩ := hat
      simp only [mkA1] at q0 q1
      rw [show ((K + 1 : Nat) : Int) = (K : Int) + 1 by omega] at q1
      obtain ⟨T, hT⟩ : ∃ T, markT K = T := ⟨_, rfl⟩
      have HMT : Hid (∀ wx, Calls Tryd.prog 34 #[.int .i64 K] wx fun e w' => e = .returned (str (markT K)) ∧ Below wx.heap.size wx w') := Lib.hid (fun wx => L_markText wx (by omega) (by omega))
      rw [hT] at HMT q0
      have hglt := ho.lt
      have d0 : wo.cell? ⟨g, m * 2, none⟩ = some (str T) := by rw [HBm.out.cell (p := ⟨g, m * 2, none⟩) hglt, ho.cell, List.getElem?_append_left (by omega)]; exact q0
      have d1 : wo.cell? ⟨g, m * 2 + 1, none⟩ = some (.int .i64 ((K : Int) + 1)) := by rw [HBm.out.cell (p := ⟨g, m * 2 + 1, none⟩) hglt, ho.cell, List.getElem?_append_left (by omega)]; exact q1
      have dl : g < wo.heap.size := by omega
      unfold maxLen at hmax
      have hw1 : IntKind.i64.wrap ((K : Int) + 1) = (K : Int) + 1 := IntWalk.i64_in _ (by omega)
      have hw2 : IntKind.i64.wrap ((K : Int) + 1 + 1) = (K : Int) + 2 := by rw [show (K : Int) + 1 + 1 = (K : Int) + 2 by omega]; exact IntWalk.i64_in _ (by omega)
      have hlt' : (m : Int) < as_.length := by omega
      have hTT : (T != T) = false := by simp
      have hKK : Hid ((K : Int) + 2 = ((k + 2 * (m + 1) : Nat) : Int)) := Lib.hid (by omega)
      clear ho hch hT q0 q1 hmk
      go_wp2_with fail
      go_region_held3 (fun w' => w'.cell? ⟨g, m * 2, none⟩ = some (str T))
        (first | ((try dsimp only); (go_simp; done)) | go_keep)
        (first | (go_at_call 34; (with_reducible refine (HMT.out _).mono ?_); rintro e w2 ⟨rfl, hb2⟩; have hz2 : wo.heap.size ≤ w2.heap.size := hb2.size; have c0 : w2.cell? ⟨g, m * 2, none⟩ = some (str T) := (hb2.cell (p := ⟨g, m * 2, none⟩) dl).trans d0; have c1 : w2.cell? ⟨g, m * 2 + 1, none⟩ = some (.int .i64 ((K : Int) + 1)) := (hb2.cell (p := ⟨g, m * 2 + 1, none⟩) dl).trans d1; have HB2 : Hid (Below w.heap.size w w2) := Lib.hid (Below.step hb2 (Below.drew HBm.out) hz); clear hb2) | fail)
      all_goals
        go_wp2_with fail
        go_roundw
        case rel => exact ⟨m + 1, by omega, by rw [hKK.out], by go_num, HB2.out⟩
        case measure => simp [RowKit.intOf]; omega
    · obtain rfl : m = as_.length := by omega
      go_wp2_with fail
      go_ret
      exact ⟨rfl, HBm.out⟩
set_option maxHeartbeats 2000000 in
theorem L_markProgram {base : Nat} {NA : Option Addr} {nc : Nat} {ns : List ENode} {AA : Option Addr} {ac : Nat} {as_ : List EAssign} {hi : Nat} (w : World) (h : ProgM w base NA nc ns AA ac as_) (hlow : LowN w NA ns.length hi) (hAA : ∀ y, y ∈ gOf AA → y < hi) (hhi : hi ≤ w.heap.size) (hb : base ≤ w.heap.size) (hx : ∀ x, x ∈ ns → x.2.2.2.length ≤ 3) :
    Calls Tryd.prog 7 #[.agg #[.slice NA ns.length nc, .slice AA as_.length ac], .int .i64 1] w fun e w' => e = .returned (.int .i64 ((1 + szN ns + 2 * as_.length : Nat) : Int)) ∧ ProgM w' base NA nc (mkN 1 ns) AA ac (mkA (1 + szN ns) as_) ∧ Below base w w' ∧ (∀ y, hi ≤ y → y < w.heap.size → w'.heap[y]? = w.heap[y]?) := by
  have hn := h.2.2.2.1
  have hs := szN_le hx
  have HP := Lib.hid h
  have HX := Lib.hid hx
  have HST : Hid (∀ wx, Below w.heap.size w wx → ProgM wx base NA nc ns AA ac as_ ∧ LowN wx NA ns.length hi) := Lib.hid (fun wx q => by
    refine ⟨?_, hlow.step q hhi⟩
    obtain ⟨a1, ⟨cs, a2, a3, a4⟩, a5, a6, a7⟩ := HP.out
    exact ⟨a1.step q, ⟨cs, a2.step q, a3.keep (fun y _ hl => q.block y hl), a4⟩, a5, a6, a7⟩)
  have HM : Hid (∀ wx, Below w.heap.size w wx → Calls Tryd.prog 18 #[.slice NA ns.length nc, .int .i64 1] wx fun e w' => e = .returned (.int .i64 ((1 + szN ns : Nat) : Int)) ∧ ProgM w' base NA nc (mkN 1 ns) AA ac as_ ∧ Below base wx w' ∧ (∀ y, hi ≤ y → y < wx.heap.size → w'.heap[y]? = wx.heap[y]?)) := Lib.hid (fun wx q => L_markNodeS (k := 1) wx (HST.out wx q).1 (HST.out wx q).2 (Nat.le_trans hb q.size) HX.out (by omega) (by omega))
  obtain ⟨S, hS⟩ : ∃ S, 1 + szN ns = S := ⟨_, rfl⟩
  rw [hS] at HM ⊢
  have HA : Hid (∀ wx ns', ProgM wx base NA nc ns' AA ac as_ → base ≤ wx.heap.size → Calls Tryd.prog 19 #[.slice AA as_.length ac, .int .i64 S] wx fun e w' => e = .returned (.int .i64 ((S + 2 * as_.length : Nat) : Int)) ∧ ProgM w' base NA nc ns' AA ac (mkA S as_) ∧ Below base wx w' ∧ (∀ y, hi ≤ y → y < wx.heap.size → w'.heap[y]? = wx.heap[y]?)) := Lib.hid (fun wx ns' q1 q2 => L_markAssignmentS (k := S) wx q1 hAA q2 (by omega) (by omega))
  clear h hx hs hS hlow hAA
  go_enter Tryd.func7, Tryd.ntmps7
  go_wp2_with fail
  (with_reducible refine (HM.out _ (by repeat (first | (with_reducible exact Below.refl _ _) | (with_reducible assumption) | ((with_reducible refine Below.alloc ?_ ?_ _); rotate_left; (first | omega | (simp <;> omega))) | ((with_reducible refine Below.setCell ?_ ?_ _); rotate_left; (first | omega | (simp <;> omega))) | (with_reducible refine below_drewN ?_ _) | (with_reducible refine Below.drew ?_) | ((with_reducible refine Below.step (by assumption) ?_ ?_); rotate_left; (first | omega | (simp <;> omega)))))).mono ?_)
  rintro e w1 ⟨rfl, hp1, hb1, hm1⟩
  have hz1 := hb1.size
  (try simp at hz1)
  have hbx : w1.heap[w.heap.size]? = _ := hm1 w.heap.size hhi (by simp)
  have hbo : Own w1 w.heap.size 25 [.slice NA ns.length nc, .slice AA as_.length ac] := hbx.trans (Own.new w 25 #[_, _])
  have c0 := hbo.cell 0
  have c1 := hbo.cell 1
  (try dsimp only [List.getElem?_cons_succ, List.getElem?_cons_zero] at c0 c1)
  have HP1 := Lib.hid hp1
  have HB1 : Hid (Below base w w1) := Lib.hid (Below.trans (Below.alloc (Below.refl _ _) hb _) hb1)
  have HM1 : Hid (∀ y, hi ≤ y → y < w.heap.size → w1.heap[y]? = w.heap[y]?) := Lib.hid (fun y h1 h2 => (hm1 y h1 (by simp; omega)).trans (Below.heap_alloc w _ y h2))
  clear hp1 hb1 hm1 hbx hbo
  go_wp2_with fail
  (with_reducible refine (HA.out _ _ HP1.out (by omega)).mono ?_)
  rintro e w2 ⟨rfl, hp2, hb2, hm2⟩
  have HP2 := Lib.hid hp2
  have HB2 : Hid (Below base w w2) := Lib.hid (HB1.out.trans hb2)
  have HM2 : Hid (∀ y, hi ≤ y → y < w.heap.size → w2.heap[y]? = w.heap[y]?) := Lib.hid (fun y h1 h2 => (hm2 y h1 (by omega)).trans (HM1.out y h1 h2))
  clear hp2 hb2 hm2
  go_wp2_with fail
  go_ret
  exact ⟨rfl, HP2.out, HB2.out, HM2.out⟩
set_option maxHeartbeats 2000000 in
theorem L_heldProgram {base : Nat} {NA : Option Addr} {nc : Nat} {ns : List ENode} {AA : Option Addr} {ac : Nat} {as_ : List EAssign} (w : World) (h : ProgM w base NA nc (mkN 1 ns) AA ac (mkA (1 + szN ns) as_)) (hx : ∀ x, x ∈ ns → x.2.2.2.length ≤ 3) :
    Calls Tryd.prog 8 #[.agg #[.slice NA ns.length nc, .slice AA as_.length ac], .int .i64 1] w fun e w' => e = .returned (.int .i64 ((1 + szN ns + 2 * as_.length : Nat) : Int)) ∧ Below w.heap.size w w' := by
  have hn := h.2.2.2.1
  rw [mkN_len] at hn
  have hs := szN_le hx
  have HP := Lib.hid h
  have HX := Lib.hid hx
  have HST : Hid (∀ wx, Below w.heap.size w wx → ProgM wx base NA nc (mkN 1 ns) AA ac (mkA (1 + szN ns) as_)) := Lib.hid (fun wx q => by
    obtain ⟨a1, ⟨cs, a2, a3, a4⟩, a5, a6, a7⟩ := HP.out
    exact ⟨a1.step q, ⟨cs, a2.step q, a3.keep (fun y _ hl => q.block y hl), a4⟩, a5, a6, a7⟩)
  have HM : Hid (∀ wx, Below w.heap.size w wx → Calls Tryd.prog 20 #[.slice NA ns.length nc, .int .i64 1] wx fun e w' => e = .returned (.int .i64 ((1 + szN ns : Nat) : Int)) ∧ Below wx.heap.size wx w') := Lib.hid (fun wx q => L_heldNodeS (k := 1) wx (HST.out wx q) HX.out (by omega) (by omega))
  have HA : Hid (∀ wx, Below w.heap.size w wx → Calls Tryd.prog 21 #[.slice AA as_.length ac, .int .i64 ((1 + szN ns : Nat) : Int)] wx fun e w' => e = .returned (.int .i64 ((1 + szN ns + 2 * as_.length : Nat) : Int)) ∧ Below wx.heap.size wx w') := Lib.hid (fun wx q => L_heldAssignmentS (k := 1 + szN ns) wx (HST.out wx q) (by omega) (by omega))
  obtain ⟨S, hS⟩ : ∃ S, 1 + szN ns = S := ⟨_, rfl⟩
  rw [hS] at HM HA ⊢
  have hSn : ¬ (S : Int) < 0 := by omega
  obtain ⟨S2, hS2⟩ : ∃ S2, S + 2 * as_.length = S2 := ⟨_, rfl⟩
  rw [hS2] at HA ⊢
  have hSn2 : ¬ (S2 : Int) < 0 := by omega
  clear h hx hs hS hS2 HST HP
  go_enter Tryd.func8, Tryd.ntmps8
  go_wp2_with fail
  (with_reducible refine (HM.out _ (by repeat (first | (with_reducible exact Below.refl _ _) | (with_reducible assumption) | ((with_reducible refine Below.alloc ?_ ?_ _); rotate_left; (first | omega | (simp <;> omega))) | ((with_reducible refine Below.setCell ?_ ?_ _); rotate_left; (first | omega | (simp <;> omega))) | (with_reducible refine below_drewN ?_ _) | (with_reducible refine Below.drew ?_) | ((with_reducible refine Below.step (by assumption) ?_ ?_); rotate_left; (first | omega | (simp <;> omega)))))).mono ?_)
  rintro e w1 ⟨rfl, hb1⟩
  have hz1 := hb1.size
  (try simp at hz1)
  have hbo : Own w1 w.heap.size 25 [.slice NA ns.length nc, .slice AA as_.length ac] := Own.step hb1 (Own.new w 25 #[_, _])
  have c0 := hbo.cell 0
  have c1 := hbo.cell 1
  (try dsimp only [List.getElem?_cons_succ, List.getElem?_cons_zero] at c0 c1)
  have HB1 : Hid (Below w.heap.size w w1) := Lib.hid (Below.step hb1 (by repeat (first | (with_reducible exact Below.refl _ _) | (with_reducible assumption) | ((with_reducible refine Below.alloc ?_ ?_ _); rotate_left; (first | omega | (simp <;> omega))) | ((with_reducible refine Below.setCell ?_ ?_ _); rotate_left; (first | omega | (simp <;> omega))) | (with_reducible refine below_drewN ?_ _) | (with_reducible refine Below.drew ?_) | ((with_reducible refine Below.step (by assumption) ?_ ?_); rotate_left; (first | omega | (simp <;> omega))))) (by first | omega | (simp <;> omega)))
  clear hb1 hbo
  go_wp2_with fail
  (with_reducible refine (HA.out _ HB1.out).mono ?_)
  rintro e w2 ⟨rfl, hb2⟩
  have HB2 : Hid (Below w.heap.size w w2) := Lib.hid (Below.step hb2 HB1.out HB1.out.size)
  clear hb2
  go_wp2_with fail
  go_ret
  exact ⟨rfl, HB2.out⟩
end Go.Proofs.YtnlbojckobgjpaaDoor
