/- The law's marks on programs. -/
import Derived.Test.YtnlbojckobgjpaaDoorParMk
import Derived.Test.YtnlbojckobgjpaaDoorParEq
namespace Go.Proofs.YtnlbojckobgjpaaDoor
open Go.RowKit Go.Lib
set_option linter.unusedVariables false
set_option linter.unusedSimpArgs false
set_option maxRecDepth 100000
theorem part_cells {cs : List Value} {m : Nat} {a b c d : Value} (h : (cs.drop (m * 4)).take 4 = [a, b, c, d]) : cs[m * 4]? = some a ∧ cs[m * 4 + 1]? = some b ∧ cs[m * 4 + 2]? = some c ∧ cs[m * 4 + 3]? = some d := by
  have e : ∀ j, j < 4 → cs[m * 4 + j]? = [a, b, c, d][j]? := fun j hj => by rw [← h, List.getElem?_take_of_lt hj, List.getElem?_drop]
  exact ⟨e 0 (by omega), e 1 (by omega), e 2 (by omega), e 3 (by omega)⟩
theorem some_lt {cs : List Value} {i : Nat} {a : Value} (h : cs[i]? = some a) : i < cs.length := by
  rcases Nat.lt_or_ge i cs.length with q | q
  · exact q
  · rw [List.getElem?_eq_none q] at h; cases h
/-- A program's rows lie below block hi. -/
def LowN (w : World) (NA : Option Addr) (n hi : Nat) : Prop := (∀ y, y ∈ gOf NA → y < hi) ∧ ∀ (j : Nat), j < n → ∀ (A : Option Addr) (l c g : Nat), NA = some ⟨g, 0, none⟩ → w.cell? ⟨g, j * 4 + 3, none⟩ = some (.slice A l c) → ∀ y, y ∈ gOf A → y < hi
theorem ProgM.lowN {w : World} {base : Nat} {NA : Option Addr} {nc : Nat} {ns : List ENode} {AA : Option Addr} {ac : Nat} {as_ : List EAssign} (h : ProgM w base NA nc ns AA ac as_) : LowN w NA ns.length w.heap.size := by
  refine ⟨fun y hy => by obtain ⟨_, ⟨cs, hg, _⟩, _⟩ := h; exact hg.lt y hy, fun j hj A l c g hg hc y hy => ?_⟩
  obtain ⟨g', cs, ds, A', c', hNA, hbg, ho, hlen, hnc, hmax, hcs, hr, hAg, hch⟩ := h.open_ hj
  rw [hNA] at hg
  injection hg with hg
  injection hg with hg
  subst hg
  obtain ⟨q0, q1, q2, q3⟩ := part_cells hcs
  have l3 := some_lt q3
  rw [ho.cell, List.getElem?_append_left (by omega), q3] at hc
  injection hc with hc
  injection hc with e1 e2 e3
  subst e1
  exact hr.lt y hy
theorem LowN.step {w w' : World} {NA : Option Addr} {n hi : Nat} (h : LowN w NA n hi) (hb : Below w.heap.size w w') (hi2 : hi ≤ w.heap.size) : LowN w' NA n hi :=
  ⟨h.1, fun j hj A l c g hg hc y hy => h.2 j hj A l c g hg (by
    have hgl : g < w.heap.size := by have := h.1 g (by rw [hg]; simp [gOf]); omega
    rw [hb.cell (p := ⟨g, j * 4 + 3, none⟩) hgl] at hc; exact hc) y hy⟩
set_option maxHeartbeats 2000000 in
theorem L_markNodeS {base : Nat} {NA : Option Addr} {nc : Nat} {ns : List ENode} {AA : Option Addr} {ac : Nat} {as_ : List EAssign} {k hi : Nat} (w : World) (h : ProgM w base NA nc ns AA ac as_) (hlow : LowN w NA ns.length hi) (hb : base ≤ w.heap.size) (hx : ∀ x, x ∈ ns → x.2.2.2.length ≤ 3) (h0 : 0 < k) (h1 : k ≤ 1048576) :
    Calls Tryd.prog 18 #[.slice NA ns.length nc, .int .i64 k] w fun e w' => e = .returned (.int .i64 ((k + szN ns : Nat) : Int)) ∧ ProgM w' base NA nc (mkN k ns) AA ac as_ ∧ Below base w w' ∧ (∀ y, hi ≤ y → y < w.heap.size → w'.heap[y]? = w.heap[y]?) := by
  have hcap := h.2.2.2.1
  have HP := Lib.hid h
  have HX := Lib.hid hx
  have HLW := Lib.hid hlow
  clear h hx hlow
  go_enter Tryd.func18, Tryd.ntmps18
  go_wp2_with fail
  go_loopw [1, 5] (fun q i wr => ∃ m : Nat, m ≤ ns.length ∧ q = .int .i64 ((k + szN (ns.take m) : Nat) : Int) ∧ i = .int .i64 m ∧ ProgM wr base NA nc (mixN k ns m) AA ac as_ ∧ Below base w wr ∧ LowN wr NA ns.length hi ∧ (∀ y, hi ≤ y → y < w.heap.size → wr.heap[y]? = w.heap[y]?)) (fun _ i _ => ns.length - (RowKit.intOf i).toNat)
  case atStart => exact ⟨0, Nat.zero_le _, by simp [szN], rfl, by rw [mixN_zero]; exact HP.out, Below.refl _ _, HLW.out, fun _ _ _ => rfl⟩
  case round =>
    obtain ⟨m, hm, rfl, rfl, hp, hbw, hlo, hmid⟩ := hrel
    obtain ⟨wo, rfl⟩ : ∃ wo, wo = wr := ⟨_, rfl⟩
    have hz := hbw.size
    have HPm := Lib.hid hp
    have HBm := Lib.hid hbw
    have HLO := Lib.hid hlo
    have HMID := Lib.hid hmid
    clear hp hbw hlo hmid HLW
    by_cases hlt : m < ns.length
    · have hlm : m < (mixN k ns m).length := by rw [mixN_len _ _ _ hm]; exact hlt
      obtain ⟨g, cs, ds, A, c, hNA, hbg, ho, hlen, hnc, hmax, hcs, hr, hAg, hch⟩ := HPm.out.open_ hlm
      have hat := mixN_at (k := k) hlt
      have hsl : (mixN k ns m).length = ns.length := mixN_len _ _ _ hm
      rw [hat] at hcs hr hch
      rw [hsl] at hlen hnc
      subst hNA
      have hargs := HX.out _ (List.getElem_mem hlt)
      have hsz : szN (ns.take m) ≤ m * 6 := by
        have := szN_le (ns := ns.take m) (b := 3) (fun x hx => HX.out x (List.mem_of_mem_take hx))
        rw [List.length_take] at this
        have h2 : min m ns.length * (3 + 3) = m * 6 := by rw [Nat.min_eq_left hm]
        omega
      have hsuc := szN_succ hlt
      have HSUC := Lib.hid (mixN_succ (k := k) hlt)
      obtain ⟨K, hK⟩ : ∃ K, k + szN (ns.take m) = K := ⟨_, rfl⟩
      have hKb : K ≤ 2097152 := by omega
      have hK0 : 0 < K := by omega
      obtain ⟨x, hxe⟩ : ∃ x, ns[m] = x := ⟨_, rfl⟩
      have HND : Hid (ProgM wo base (some ⟨g, 0, none⟩) nc (mixN k ns m) AA ac as_) := HPm
      rw [hxe] at hcs hr hch hargs hsuc
      rw [hK] at HSUC ⊢
      obtain ⟨q0, q1, q2, q3⟩ := part_cells hcs
      have l3 := some_lt q3
      have HO := Lib.hid ho
      have HR := Lib.hid hr
      have HCH := Lib.hid hch
      have HAG := Lib.hid hAg
      have d0 : wo.cell? ⟨g, m * 4, none⟩ = some (.int .i64 x.1) := by rw [ho.cell, List.getElem?_append_left (by omega)]; exact q0
      have hAh : ∀ y, y ∈ gOf A → y < hi := HLO.out.2 m hlt A _ c g rfl (by rw [ho.cell, List.getElem?_append_left (by omega)]; exact q3)
      have hgh : g < hi := HLO.out.1 g (by simp [gOf])
      have df := ho.frozen
      have dl := ho.lt
      unfold maxLen at hmax
      have hw1 : IntKind.i64.wrap ((K : Int) + 1) = ((K + 1 : Nat) : Int) := by rw [show (K : Int) + 1 = ((K + 1 : Nat) : Int) by omega]; exact IntWalk.i64_in _ (by omega)
      have hlt' : (m : Int) < ns.length := by omega
      have hw2 : IntKind.i64.wrap ((K : Int) + 1 + 1) = (K : Int) + 2 := by rw [show (K : Int) + 1 + 1 = (K : Int) + 2 by omega]; exact IntWalk.i64_in _ (by omega)
      have hw3 : IntKind.i64.wrap ((K : Int) + 2 + 1) = (K : Int) + 3 := by rw [show (K : Int) + 2 + 1 = (K : Int) + 3 by omega]; exact IntWalk.i64_in _ (by omega)
      have hw1 : IntKind.i64.wrap ((K : Int) + 1) = (K : Int) + 1 := IntWalk.i64_in _ (by omega)
      have HMT : Hid (∀ wx, Calls Tryd.prog 34 #[.int .i64 ((K : Int) + 1)] wx fun e w' => e = .returned (str (markT (K + 1))) ∧ Below wx.heap.size wx w') := Lib.hid (fun wx => by have := L_markText (k := K + 1) wx (by omega) (by omega); rw [show ((K + 1 : Nat) : Int) = (K : Int) + 1 by omega] at this; exact this)
      have HMI : Hid (∀ (wx : World) (zs : List Value), OwnS wx 1 A x.2.2.2.length c 3 zs → Calls Tryd.prog 35 #[.slice A x.2.2.2.length c, .int .i64 ((K : Int) + 3)] wx fun e w' => e = .returned (.int .i64 ((K : Int) + 3 + x.2.2.2.length)) ∧ OwnS w' 1 A x.2.2.2.length c 3 (ints (upFrom ((K : Int) + 3) x.2.2.2.length)) ∧ Only wx.heap.size (gOf A) wx w') := Lib.hid (fun wx zs hz => L_markIntSG wx hz (by omega) (by omega) (by omega))
      obtain ⟨T, hT⟩ : ∃ T, markT (K + 1) = T := ⟨_, rfl⟩
      rw [hT] at HMT
      have HTE := Lib.hid hT
      obtain ⟨n, hn⟩ : ∃ n, x.2.2.2.length = n := ⟨_, rfl⟩
      have HNE := Lib.hid hn
      rw [hn] at HMI hargs hsuc q3
      have HR' : Hid (OwnS wo 1 A n c 3 (ints x.2.2.2)) := Lib.hid (by rw [← hn]; exact HR.out)
      have hnn : ¬ (K : Int) + 3 + n < 0 := by omega
      have hKK : Hid ((K : Int) + 3 + n = ((k + szN (ns.take (m + 1)) : Nat) : Int)) := Lib.hid (by omega)
      clear ho hr hch hAg hat hcs hT hn hsuc hsz
      go_wp2_with fail
      (with_reducible refine (HMT.out _).mono ?_)
      rintro e w2 ⟨rfl, hb2⟩
      have ho2 := Own.step hb2 (HO.out.set_left (m * 4) (by omega) (.int .i64 K))
      have hz2 := hb2.size
      have hAf : ∀ y, y ∈ gOf A → y ≠ g := fun y hy => (HAG.out y hy).1
      have HO2 := Lib.hid ho2
      have HRx : Hid (OwnS ((w2.setCell ⟨g, m * 4 + 1, none⟩ (str T)).setCell ⟨g, m * 4 + 2, none⟩ (.int .i64 ((K : Int) + 2))) 1 A n c 3 (ints x.2.2.2)) := Lib.hid (OwnS.far (OwnS.far (OwnS.step hb2 (OwnS.far HR'.out (p := ⟨g, m * 4, none⟩) hAf _)) (p := ⟨g, m * 4 + 1, none⟩) hAf _) (p := ⟨g, m * 4 + 2, none⟩) hAf _)
      have hOa : Only wo.heap.size (g :: gOf A) wo (wo.setCell ⟨g, m * 4, none⟩ (.int .i64 K)) := (Only.refl _ _ _).setCell (by simp) _
      have HOb := Lib.hid (hOa.sub (Only.of_below hb2 []) hOa.size (fun x hx => by cases hx))
      have HOc := Lib.hid ((HOb.out.setCell (p := ⟨g, m * 4 + 1, none⟩) (by simp) (str T)).setCell (p := ⟨g, m * 4 + 2, none⟩) (by simp) (.int .i64 ((K : Int) + 2)))
      have HO4 := Lib.hid ((ho2.set_left (m * 4 + 1) (by simp; omega) (str T)).set_left (m * 4 + 2) (by simp; omega) (.int .i64 ((K : Int) + 2)))
      have e1 : w2.cell? ⟨g, m * 4 + 1, none⟩ = some (str x.2.1) := by rw [ho2.cell, List.getElem?_append_left (by simp; omega), List.getElem?_set_ne (by omega)]; exact q1
      have e2 : w2.cell? ⟨g, m * 4 + 2, none⟩ = some (.int .i64 x.2.2.1) := by rw [ho2.cell, List.getElem?_append_left (by simp; omega), List.getElem?_set_ne (by omega)]; exact q2
      have e3 : w2.cell? ⟨g, m * 4 + 3, none⟩ = some (.slice A n c) := by rw [ho2.cell, List.getElem?_append_left (by simp; omega), List.getElem?_set_ne (by omega)]; exact q3
      have ef := ho2.frozen
      have el := ho2.lt
      clear hb2 hOa d0 df ho2
      go_wp2_with fail
      (with_reducible refine (HMI.out _ _ HRx.out).mono ?_)
      rintro e w5 ⟨rfl, hr5, hO5⟩
      have hO' := hO5.own HO4.out HO4.out.lt (fun q => hAf g q rfl)
      have hOd := HOc.out.sub hO5 HOc.out.size (fun x hx => .inl (by simp [hx]))
      have HP5 : Hid (ProgM w5 base (some ⟨g, 0, none⟩) nc (mixN k ns (m + 1)) AA ac as_) := Lib.hid (by
        have hl : (upFrom ((K : Int) + 3) n).length = n := by simp [upFrom]
        have h9 := HCH.out w5 K ((K : Int) + 2) T (upFrom ((K : Int) + 3) n) hO' (by rw [hl]; exact hr5) (by rw [hl, HNE.out]) hOd
        have e9 : mk1 K x = ((K : Int), T, (K : Int) + 2, upFrom ((K : Int) + 3) n) := by
          unfold mk1
          rw [HTE.out, HNE.out]
          have a2 : ((K + 2 : Nat) : Int) = (K : Int) + 2 := by omega
          have a3 : ((K + 3 : Nat) : Int) = (K : Int) + 3 := by omega
          rw [a2, a3]
        rw [HSUC.out, hxe, e9]
        exact h9)
      have HB5 : Hid (Below base w w5) := Lib.hid (HBm.out.trans (Only.below hOd (by omega) (fun y hy => by
        rcases List.mem_cons.1 hy with rfl | hy
        · exact hbg
        · exact (HAG.out y hy).2)))
      have HLO5 : Hid (LowN w5 (some ⟨g, 0, none⟩) ns.length hi) := Lib.hid ⟨HLO.out.1, fun j hj A' l' c' g' hg' hc y hy => HLO.out.2 j hj A' l' c' g' hg' (by
        injection hg' with hg'
        injection hg' with hg'
        subst hg'
        have hjl : j * 4 + 3 < cs.length := by rw [hlen]; omega
        rw [hO'.cell, List.getElem?_append_left (by simp; omega), List.getElem?_set_ne (by omega), List.getElem?_set_ne (by omega), List.getElem?_set_ne (by omega)] at hc
        rw [HO.out.cell, List.getElem?_append_left hjl]
        exact hc) y hy⟩
      have HMID5 : Hid (∀ y, hi ≤ y → y < w.heap.size → w5.heap[y]? = w.heap[y]?) := Lib.hid (fun y h1 h2 => (hOd.block y (by omega) (fun q => by
        rcases List.mem_cons.1 q with r | r
        · omega
        · have := hAh y r; omega)).trans (HMID.out y h1 h2))
      clear hr5 hO5 hO' hOd e1 e2 e3 ef
      go_wp2_with fail
      go_roundw
      case rel => exact ⟨m + 1, by omega, by rw [hKK.out], by go_num, HP5.out, HB5.out, HLO5.out, HMID5.out⟩
      case measure => simp [RowKit.intOf]; omega
    · obtain rfl : m = ns.length := by omega
      go_wp2_with fail
      go_ret
      rw [mixN_all] at HPm
      rw [List.take_length]
      exact ⟨rfl, HPm.out, HBm.out, HMID.out⟩
set_option maxHeartbeats 2000000 in
theorem L_markAssignmentS {base : Nat} {NA : Option Addr} {nc : Nat} {ns : List ENode} {AA : Option Addr} {ac : Nat} {as_ : List EAssign} {k hi : Nat} (w : World) (h : ProgM w base NA nc ns AA ac as_) (hAA : ∀ y, y ∈ gOf AA → y < hi) (hb : base ≤ w.heap.size) (h0 : 0 < k) (h1 : k ≤ 1048576) :
    Calls Tryd.prog 19 #[.slice AA as_.length ac, .int .i64 k] w fun e w' => e = .returned (.int .i64 ((k + 2 * as_.length : Nat) : Int)) ∧ ProgM w' base NA nc ns AA ac (mkA k as_) ∧ Below base w w' ∧ (∀ y, hi ≤ y → y < w.heap.size → w'.heap[y]? = w.heap[y]?) := by
  have hcap := h.2.2.2.2
  have HP := Lib.hid h
  have HAA := Lib.hid hAA
  clear h hAA
  go_enter Tryd.func19, Tryd.ntmps19
  go_wp2_with fail
  go_loopw [1, 5] (fun q i wr => ∃ m : Nat, m ≤ as_.length ∧ q = .int .i64 ((k + 2 * m : Nat) : Int) ∧ i = .int .i64 m ∧ ProgM wr base NA nc ns AA ac (mixA k as_ m) ∧ Below base w wr ∧ (∀ y, hi ≤ y → y < w.heap.size → wr.heap[y]? = w.heap[y]?)) (fun _ i _ => as_.length - (RowKit.intOf i).toNat)
  case atStart => exact ⟨0, Nat.zero_le _, by simp, rfl, by rw [mixA_zero]; exact HP.out, Below.refl _ _, fun _ _ _ => rfl⟩
  case round =>
    obtain ⟨m, hm, rfl, rfl, hp, hbw, hmid⟩ := hrel
    obtain ⟨wo, rfl⟩ : ∃ wo, wo = wr := ⟨_, rfl⟩
    have hz := hbw.size
    have HPm := Lib.hid hp
    have HBm := Lib.hid hbw
    have HMID := Lib.hid hmid
    clear hp hbw hmid
    by_cases hlt : m < as_.length
    · have hsl : (mixA k as_ m).length = as_.length := mixA_len _ _ _ hm
      obtain ⟨g, ds, hAA, hbg, ho, hnc, hmax, hch⟩ := HPm.out.openA (m := m) (by rw [hsl]; exact hlt)
      have hat := rAss_at (l := mixA k as_ m) (k := m) (by rw [hsl]; exact hlt)
      have hln := rAss_len (mixA k as_ m)
      have HSUC := Lib.hid (mixA_succ (k := k) hlt)
      rw [hsl] at hnc hln
      subst hAA
      obtain ⟨K, hK⟩ : ∃ K, k + 2 * m = K := ⟨_, rfl⟩
      have hKb : K ≤ 3145728 := by omega
      have hK0 : 0 < K := by omega
      rw [hK] at HSUC ⊢
      generalize hL : mixA k as_ m = L at *
      have hLm : m < L.length := by rw [hsl]; exact hlt
      generalize hx : L[m] = x at *
      obtain ⟨q0, q1⟩ := hat
      have HO := Lib.hid ho
      have HCH := Lib.hid hch
      have d0 : wo.cell? ⟨g, m * 2, none⟩ = some (str x.1) := by rw [ho.cell, List.getElem?_append_left (by omega)]; exact q0
      have df := ho.frozen
      have dl := ho.lt
      unfold maxLen at hmax
      have hw1 : IntKind.i64.wrap ((K : Int) + 1) = (K : Int) + 1 := IntWalk.i64_in _ (by omega)
      have hw2 : IntKind.i64.wrap ((K : Int) + 1 + 1) = (K : Int) + 2 := by rw [show (K : Int) + 1 + 1 = (K : Int) + 2 by omega]; exact IntWalk.i64_in _ (by omega)
      have hlt' : (m : Int) < as_.length := by omega
      have HMT : Hid (∀ wx, Calls Tryd.prog 34 #[.int .i64 K] wx fun e w' => e = .returned (str (markT K)) ∧ Below wx.heap.size wx w') := Lib.hid (fun wx => L_markText wx (by omega) (by omega))
      obtain ⟨T, hT⟩ : ∃ T, markT K = T := ⟨_, rfl⟩
      rw [hT] at HMT
      have HTE := Lib.hid hT
      have hKK : Hid ((K : Int) + 2 = ((k + 2 * (m + 1) : Nat) : Int)) := Lib.hid (by omega)
      clear ho hch hT
      go_wp2_with fail
      (with_reducible refine (HMT.out _).mono ?_)
      rintro e w2 ⟨rfl, hb2⟩
      have ho2 := Own.step hb2 HO.out
      have hz2 := hb2.size
      have HO3 := Lib.hid ((ho2.set_left (m * 2) (by omega) (str T)).set_left (m * 2 + 1) (by simp; omega) (.int .i64 ((K : Int) + 1)))
      have e0 : w2.cell? ⟨g, m * 2, none⟩ = some (str x.1) := by rw [ho2.cell, List.getElem?_append_left (by omega)]; exact q0
      have e1 : w2.cell? ⟨g, m * 2 + 1, none⟩ = some (.int .i64 x.2) := by rw [ho2.cell, List.getElem?_append_left (by omega)]; exact q1
      have ef := ho2.frozen
      have el := ho2.lt
      have hOb : Only wo.heap.size [g] wo w2 := Only.of_below hb2 _
      have hOc := (hOb.setCell (p := ⟨g, m * 2, none⟩) (by simp) (str T)).setCell (p := ⟨g, m * 2 + 1, none⟩) (by simp) (.int .i64 ((K : Int) + 1))
      have HP5 : Hid (ProgM ((w2.setCell ⟨g, m * 2, none⟩ (str T)).setCell ⟨g, m * 2 + 1, none⟩ (.int .i64 ((K : Int) + 1))) base NA nc ns (some ⟨g, 0, none⟩) ac (mixA k as_ (m + 1))) := Lib.hid (by
        have h9 := HCH.out _ (T, (K : Int) + 1) HO3.out hOc
        have e9 : mkA1 K = (T, (K : Int) + 1) := by
          unfold mkA1
          rw [HTE.out, show ((K + 1 : Nat) : Int) = (K : Int) + 1 by omega]
        rw [HSUC.out, e9]
        exact h9)
      have HB5 : Hid (Below base w ((w2.setCell ⟨g, m * 2, none⟩ (str T)).setCell ⟨g, m * 2 + 1, none⟩ (.int .i64 ((K : Int) + 1)))) := Lib.hid (HBm.out.trans (Only.below hOc (by omega) (fun y hy => by simp at hy; omega)))
      have hgh : g < hi := HAA.out g (by simp [gOf])
      have HMID5 : Hid (∀ y, hi ≤ y → y < w.heap.size → ((w2.setCell ⟨g, m * 2, none⟩ (str T)).setCell ⟨g, m * 2 + 1, none⟩ (.int .i64 ((K : Int) + 1))).heap[y]? = w.heap[y]?) := Lib.hid (fun y h1 h2 => (hOc.block y (by omega) (fun q => by simp at q; omega)).trans (HMID.out y h1 h2))
      clear hb2 hOb hOc ho2 d0 df HO3
      go_wp2_with fail
      go_roundw
      case rel => exact ⟨m + 1, by omega, by rw [hKK.out], by go_num, HP5.out, HB5.out, HMID5.out⟩
      case measure => simp [RowKit.intOf]; omega
    · obtain rfl : m = as_.length := by omega
      go_wp2_with fail
      go_ret
      rw [mixA_all] at HPm
      exact ⟨rfl, HPm.out, HBm.out, HMID.out⟩
end Go.Proofs.YtnlbojckobgjpaaDoor
