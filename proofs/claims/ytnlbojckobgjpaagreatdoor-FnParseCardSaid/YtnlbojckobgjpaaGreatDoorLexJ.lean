/- The program's lexer: spans, numbers, tokens. -/
import Derived.Test.YtnlbojckobgjpaaGreatDoorLexI
import Derived.Laws.EntriesVeiled
set_option linter.unusedVariables false
set_option linter.unusedSimpArgs false
namespace Go.Proofs.YtnlbojckobgjpaaGreatDoor
open Go.RowKit Go.Lib
set_option maxRecDepth 100000
/-- The first k bytes are of these kinds. -/
def KG (f : UInt8 → Bool) (l : List UInt8) (k : Nat) : Prop := ∀ j, j < k → ∃ b, l[j]? = some b ∧ f b = true
theorem KG.succ {f : UInt8 → Bool} {l : List UInt8} {k : Nat} {b : UInt8} (h : KG f l k) (hb : l[k]? = some b) (hd : f b = true) : KG f l (k + 1) := by
  intro j hj
  by_cases e : j = k
  · subst e; exact ⟨b, hb, hd⟩
  · exact h j (by omega)
def inK (ks : List Int) (b : UInt8) : Bool := ks.contains (kindK b)
theorem inK_take {ks : List Int} {j : Nat} (hj : j < ks.length) (x : Int) : (ks.take (j + 1)).contains x = ((ks.take j).contains x || x == ks[j]) := by
  rw [List.take_succ_eq_append_getElem hj, List.contains_append]
  congr 1
  rw [Bool.eq_iff_iff]; simp
theorem inK_dg (b : UInt8) : inK [2] b = isDg b := by
  unfold inK kindK
  cases h1 : isSp b with
  | true =>
    have := (isSp_nat b).1 h1
    have h2 : isDg b = false := isDg_not (by omega)
    rw [h2]; rfl
  | false =>
    cases h2 : isDg b <;> simp [h2]
    cases h3 : isLt b <;> simp [h3]
    cases h4 : isSy b <;> simp [h4]
theorem inK_nm (b : UInt8) : inK [3, 2] b = isNm b := by
  unfold inK kindK isNm
  cases h1 : isSp b with
  | true =>
    have := (isSp_nat b).1 h1
    have h2 : isDg b = false := isDg_not (by omega)
    have h3 : isLt b = false := isLt_not (by omega)
    rw [h2, h3]; rfl
  | false =>
    cases h2 : isDg b <;> cases h3 : isLt b <;> simp [h2, h3]
    cases h4 : isSy b <;> simp [h4]
theorem spanN_congr {f g : UInt8 → Bool} (h : ∀ b, f b = g b) (l : List UInt8) : spanN f l = spanN g l := by
  have : f = g := funext h
  rw [this]
theorem kindK_sp {b : UInt8} (h : isSp b = true) : kindK b = 1 := by unfold kindK; rw [h]; rfl
theorem kindK_ne {b : UInt8} (h : isSp b = false) : kindK b ≠ 1 := by
  unfold kindK; rw [h]
  cases isDg b <;> cases isLt b <;> cases isSy b <;> decide
set_option maxHeartbeats 8000000 in
theorem I_spanOf {src : List UInt8} {a : Nat} {ks : List Int} {A : Option Addr} {c : Nat} (w : World) (ha : a ≤ src.length) (hs : src.length ≤ 1048576) (hr : RS w 1 A ks.length c (ints ks)) (hk2 : ks.length ≤ 2) :
    Calls Tryz.prog 80 #[str src, .int .i64 a, .slice A ks.length c] w fun e w' => e = .returned (.int .i64 (spanN (inK ks) (src.drop a) : Int)) ∧ w = w' := by
  obtain ⟨hn, hc, hcell⟩ := hr.open_
  have HC := Lib.hid hcell
  unfold maxLen at hc
  have HKO : Hid (∀ (b : UInt8) (wx : World), Calls Tryz.prog 51 #[.int .u8 b.toNat] wx fun e w' => e = .returned (.int .i64 (kindK b)) ∧ wx = w') := Lib.hid I_kindOf
  have HDR : Hid (∀ k, (src.drop a)[k]? = src[a + k]?) := Lib.hid (fun k => List.getElem?_drop)
  clear hr hcell
  go_enter Tryz.func80, Tryz.ntmps80
  go_wp2_with fail
  go_loop [7, 8, 10, 17, 18, 19] (fun p _ _ _ _ _ => ∃ k : Nat, a + k ≤ src.length ∧ p = .int .i64 k ∧ KG (inK ks) (src.drop a) k) (fun p _ _ _ _ _ => src.length - (RowKit.intOf p).toNat)
  case atStart => exact ⟨0, by omega, rfl, fun j hj => absurd hj (by omega)⟩
  case round =>
    obtain ⟨k, hak, rfl, hkg⟩ := hrel
    have HKG := Lib.hid hkg
    clear hkg
    rcases Nat.lt_or_ge (a + k) src.length with hlt | hge
    · obtain ⟨b, hb⟩ : ∃ b, src[a + k]? = some b := ⟨_, List.getElem?_eq_getElem hlt⟩
      have hat := lx_at hb
      have HB := Lib.hid ((HDR.out k).trans hb)
      have hlt' : (a : Int) + k < src.length := by omega
      have hwa : IntKind.i64.wrap ((a : Int) + k) = ((a + k : Nat) : Int) := by rw [show (a : Int) + k = ((a + k : Nat) : Int) by omega]; exact IntWalk.i64_in _ (by omega)
      have hwb : (a : Int) + k = ((a + k : Nat) : Int) := by omega
      have HK1 := Lib.hid (HKO.out b)
      have HKB : Hid (inK ks b = ks.contains (kindK b)) := Lib.hid rfl
      obtain ⟨q, hq⟩ : ∃ q, kindK b = q := ⟨_, rfl⟩
      rw [hq] at HK1 HKB
      clear hb hq
      obtain ⟨ak, hak2⟩ : ∃ ak, a + k = ak := ⟨_, rfl⟩
      rw [hak2] at hat hwa hwb hlt
      go_wp2_with fail
      go_loop [8, 10, 19] (fun p _ i => ∃ j : Nat, j ≤ ks.length ∧ i = .int .i64 j ∧ p = .bool ((ks.take j).contains q)) (fun _ _ i => ks.length - (RowKit.intOf i).toNat)
      case atStart => exact ⟨0, Nat.zero_le _, rfl, rfl⟩
      case round =>
        obtain ⟨j, hj, rfl, rfl⟩ := hrel
        by_cases hlj : j < ks.length
        · obtain ⟨bb, o, rfl, hbh, hcc⟩ := HC.out (by omega)
          have d0 : w.cell? ⟨bb, o + j, none⟩ = some (.int .i64 ks[j]) := by rw [hcc j (by omega), List.getElem?_map, List.getElem?_eq_getElem hlj]; rfl
          have HT := Lib.hid (inK_take hlj q)
          have hlj' : (j : Int) < ks.length := by omega
          obtain ⟨x, hx⟩ : ∃ x, ks[j] = x := ⟨_, rfl⟩
          rw [hx] at d0 HT
          clear hcc hx
          cases hcj : (ks.take j).contains q with
          | true =>
            rw [hcj] at HT
            clear hcj
            go_wp2_with fail
            go_round
            case rel => exact ⟨j + 1, by omega, by go_num, by rw [HT.out]; rfl⟩
            case measure => simp [RowKit.intOf]; omega
          | false =>
            rw [hcj] at HT
            clear hcj
            go_wp2_with (first | (go_at_call 51; refine (HK1.out _).mono ?_; rintro e w' ⟨rfl, rfl⟩) | fail)
            go_round
            case rel => exact ⟨j + 1, by omega, by go_num, by rw [HT.out]; rfl⟩
            case measure => simp [RowKit.intOf]; omega
        · obtain rfl : j = ks.length := by omega
          rw [List.take_length]
          cases hck : ks.contains q with
          | true =>
            have HN := Lib.hid (HKG.out.succ HB.out (by rw [HKB.out, hck]))
            clear hck
            go_wp2_with fail
            go_round
            case rel => exact ⟨k + 1, by omega, by go_num, HN.out⟩
            case measure => simp [RowKit.intOf]; omega
          | false =>
            have HSP : Hid (spanN (inK ks) (src.drop a) = k) := Lib.hid (spanN_eq HKG.out (fun b' hb' => by rw [HB.out] at hb'; injection hb' with hb'; subst hb'; rw [HKB.out, hck]))
            clear hck
            go_wp2_with fail
            go_ret
            rw [HSP.out]
            exact ⟨rfl, rfl⟩
    · have hge' : ¬ (a : Int) + k < src.length := by omega
      have hwa : IntKind.i64.wrap ((a : Int) + k) = (a : Int) + k := IntWalk.i64_in _ (by omega)
      have HSP : Hid (spanN (inK ks) (src.drop a) = k) := Lib.hid (spanN_eq HKG.out (fun b' hb' => by rw [HDR.out, List.getElem?_eq_none (by omega)] at hb'; cases hb'))
      go_wp2_with fail
      go_ret
      rw [HSP.out]
      exact ⟨rfl, rfl⟩
/-- A token was read, or an error made. -/
def NumI (src : List UInt8) (a : Nat) (r : Option ETok) (w : World) (e : Ending) (w' : World) : Prop :=
  (match r with
  | none => ∃ g, e = .returned (.tuple #[tokV (0, [], 0, 0), .iface 64 (.pointer (some ⟨g, 0, none⟩))]) ∧ w.heap.size ≤ g ∧ Own w' g 67 [.int .i64 a]
  | some x => e = .returned (.tuple #[tokV x, .nilIface])) ∧ Below w.heap.size w w'
theorem I_span1 {src : List UInt8} {a g : Nat} (w : World) (ha : a ≤ src.length) (hs : src.length ≤ 1048576) (hg : g = w.heap.size) :
    Calls Tryz.prog 80 #[str src, .int .i64 a, .slice (some ⟨g, 0, none⟩) 1 1] (w.alloc (.cells #[.int .i64 2] 3)) fun e w' => e = .returned (.int .i64 (spanN isDg (src.drop a) : Int)) ∧ w.alloc (.cells #[.int .i64 2] 3) = w' := by
  subst hg
  have h := I_spanOf (ks := [2]) (w.alloc (.cells #[.int .i64 2] 3)) ha hs (Own.rs (t := 3) (n := 1) (size := 1) (Own.new w 3 #[.int .i64 2]) rfl (by omega)) (by simp)
  rw [spanN_congr inK_dg] at h
  exact h
theorem I_span2 {src : List UInt8} {a g : Nat} (w : World) (ha : a ≤ src.length) (hs : src.length ≤ 1048576) (hg : g = w.heap.size) :
    Calls Tryz.prog 80 #[str src, .int .i64 a, .slice (some ⟨g, 0, none⟩) 2 2] (w.alloc (.cells #[.int .i64 3, .int .i64 2] 3)) fun e w' => e = .returned (.int .i64 (spanN isNm (src.drop a) : Int)) ∧ w.alloc (.cells #[.int .i64 3, .int .i64 2] 3) = w' := by
  subst hg
  have h := I_spanOf (ks := [3, 2]) (w.alloc (.cells #[.int .i64 3, .int .i64 2] 3)) ha hs (Own.rs (t := 3) (n := 2) (size := 1) (Own.new w 3 #[.int .i64 3, .int .i64 2]) rfl (by omega)) (by simp)
  rw [spanN_congr inK_nm] at h
  exact h
def numX (src : List UInt8) (a : Nat) : Option ETok := (numTok (src.drop a)).map fun x => (1, (src.drop a).take x.1, (x.2 : Int), (a : Int))
theorem DG.of_span (l : List UInt8) (d : Nat) (h : d ≤ spanN isDg l) : DG (l.take d) d := fun j hj => by
  obtain ⟨b, hb, hd⟩ := spanN_in (f := isDg) (l := l) (j := j) (by omega)
  exact ⟨b, by rw [List.getElem?_take_of_lt hj]; exact hb, hd⟩
set_option maxHeartbeats 2000000 in
theorem I_numberAt {src : List UInt8} {a : Nat} (w : World) (ha : a ≤ src.length) (hs : src.length ≤ 1048576) :
    Calls Tryz.prog 79 #[str src, .int .i64 a] w (NumI src a (numX src a) w) := by
  have HNX : Hid (numX src a = (numTok (src.drop a)).map fun x => (1, (src.drop a).take x.1, (x.2 : Int), (a : Int))) := Lib.hid rfl
  obtain ⟨r, hr⟩ : ∃ r, numX src a = r := ⟨_, rfl⟩
  rw [hr] at HNX ⊢
  clear hr
  obtain ⟨d, hd⟩ : ∃ d, spanN isDg (src.drop a) = d := ⟨_, rfl⟩
  have hdl := spanN_le isDg (src.drop a)
  rw [hd, List.length_drop] at hdl
  have HD := Lib.hid hd
  have HS1 : Hid (∀ X : Obj, Calls Tryz.prog 80 #[str src, .int .i64 a, .slice (some ⟨w.heap.size + 1, 0, none⟩) 1 1] ((w.alloc X).alloc (.cells #[.int .i64 2] 3)) fun e w' => e = .returned (.int .i64 (d : Int)) ∧ (w.alloc X).alloc (.cells #[.int .i64 2] 3) = w') := Lib.hid (fun X => by have := I_span1 (w.alloc X) ha hs (g := w.heap.size + 1) (by simp); rw [hd] at this; exact this)
  have had : IntKind.i64.wrap ((a : Int) + d) = (a : Int) + d := IntWalk.i64_in _ (by omega)
  by_cases h4 : 4 < d
  · have h4' : (4 : Int) < d := by omega
    have hrr : r = none := by rw [HNX.out, numTok_big (by rw [hd]; exact h4)]; rfl
    subst hrr
    clear hd h4
    go_enter Tryz.func79, Tryz.ntmps79
    go_wp2_with fail
    (with_reducible refine (HS1.out _).mono ?_)
    rintro e w' ⟨rfl, rfl⟩
    go_wp2_with fail
    refine bodyPost_ret (v := .tuple #[tokV (0, [], 0, 0), .iface 64 (.pointer (some ⟨w.heap.size + 1 + 1, 0, none⟩))]) (by simp [results, Tryz.results79, go_sem]) rfl ⟨⟨_, rfl, by omega, ?_⟩, (by repeat (first | (with_reducible exact Below.refl _ _) | (with_reducible assumption) | ((with_reducible refine Below.alloc ?_ ?_ _); rotate_left; (first | omega | (simp <;> omega))) | ((with_reducible refine Below.setCell ?_ ?_ _); rotate_left; (first | omega | (simp <;> omega))) | (with_reducible refine below_drewN ?_ _) | (with_reducible refine Below.drew ?_) | ((with_reducible refine Below.step (by assumption) ?_ ?_); rotate_left; (first | omega | (simp <;> omega)))))⟩
    (with_reducible refine Own.at_new ?_); simp
  · have h4' : ¬ (4 : Int) < d := by omega
    obtain ⟨l1, hl1⟩ : ∃ l1, (src.drop a).take d = l1 := ⟨_, rfl⟩
    have hl1l : l1.length = d := by rw [← hl1, List.length_take, List.length_drop]; omega
    have hdg1 : DG l1 l1.length := by rw [hl1l, ← hl1]; exact DG.of_span _ _ (by rw [hd]; exact Nat.le_refl _)
    have hv1 : valD l1 < 10000 := by
      have := hdg1.val
      rw [List.take_length] at this
      exact Nat.lt_of_lt_of_le this (Nat.le_trans (Nat.pow_le_pow_right (by omega) (show l1.length ≤ 4 by omega)) (Nat.le_refl _))
    have HV1 : Hid (∀ wx, Calls Tryz.prog 104 #[str l1] wx fun e w' => e = .returned (.int .i64 (valD l1)) ∧ Below wx.heap.size wx w') := Lib.hid (fun wx => I_valueOf l1 hdg1 (by omega) wx)
    have hex : ({ data := src.toArray } : ByteArray).extract a (a + d) = ⟨l1.toArray⟩ := by rw [lex_part, hl1]
    have HL1 := Lib.hid hl1
    obtain ⟨V, hV⟩ : ∃ V, valD l1 = V := ⟨_, rfl⟩
    have HV := Lib.hid hV
    rw [hV] at hv1 HV1
    obtain ⟨E, hE⟩ : ∃ E, a + d = E := ⟨_, rfl⟩
    have HE := Lib.hid hE
    have hEi : (a : Int) + d = E := by omega
    have hEl : E ≤ src.length := by omega
    have haE : a ≤ E := by omega
    rw [hE] at hex
    rw [hEi] at had
    have i1 : (a : Int) ≤ E := by omega
    have i2 : (E : Int) ≤ src.length := by omega
    have hVw : IntKind.i64.wrap ((V : Int) * 256) = (V : Int) * 256 := IntWalk.i64_in _ (by omega)
    have hNo : Hid (src[E]? ≠ some 46 → r = some (1, l1, ((V * 256 : Nat) : Int), (a : Int))) := Lib.hid (fun h => by
      rw [HNX.out, numTok_int hd h4 (by rw [List.getElem?_drop, HE.out]; exact h)]
      simp only [Option.map_some]
      rw [HL1.out, HV.out])
    have H4 := Lib.hid h4
    clear hV hl1 hdg1 hl1l hE hd h4
    rcases Nat.lt_or_ge E src.length with hlt | hge
    · obtain ⟨b, hb⟩ : ∃ b, src[E]? = some b := ⟨_, List.getElem?_eq_getElem hlt⟩
      have hat := lx_at hb
      have HBt := Lib.hid hb
      have hlt' : (E : Int) < src.length := by omega
      clear hb
      by_cases h46 : b = 46
      · subst h46
        have hE1 : E + 1 ≤ src.length := hlt
        have H46 : Hid ((src.drop a)[d]? = some 46) := Lib.hid (by rw [List.getElem?_drop, HE.out]; exact HBt.out)
        have HDR : Hid ((src.drop a).drop (d + 1) = src.drop (E + 1)) := Lib.hid (by rw [List.drop_drop]; congr 1; have := HE.out; omega)
        obtain ⟨q, hq⟩ : ∃ q, spanN isDg (src.drop (E + 1)) = q := ⟨_, rfl⟩
        have hql := spanN_le isDg (src.drop (E + 1))
        rw [hq, List.length_drop] at hql
        have HQ1 := Lib.hid hq
        have HQ2 : Hid (spanN isDg ((src.drop a).drop (d + 1)) = q) := Lib.hid (by rw [HDR.out]; exact hq)
        have HS2 : Hid (∀ wx : World, Calls Tryz.prog 80 #[str src, .int .i64 ((E : Int) + 1), .slice (some ⟨wx.heap.size, 0, none⟩) 1 1] (wx.alloc (.cells #[.int .i64 2] 3)) fun e w' => e = .returned (.int .i64 (q : Int)) ∧ wx.alloc (.cells #[.int .i64 2] 3) = w') := Lib.hid (fun wx => by have := I_span1 (a := E + 1) wx hE1 hs rfl; rw [hq] at this; simpa using this)
        clear hq
        rcases (show q < 1 ∨ 4 < q ∨ (1 ≤ q ∧ q ≤ 4) by omega) with hq1 | hq1 | ⟨hq1, hq4⟩
        · have hq1' : (q : Int) < 1 := by omega
          have hrr : r = none := by rw [HNX.out, numTok_bad HD.out H46.out HQ2.out (.inl hq1)]; rfl
          subst hrr
          go_enter Tryz.func79, Tryz.ntmps79
          go_wp2_with fail
          (with_reducible refine (HS1.out _).mono ?_)
          rintro e w' ⟨rfl, rfl⟩
          go_wp2_with fail
          refine (HV1.out _).mono ?_
          rintro e w1 ⟨rfl, hb1⟩
          have hz1 := hb1.size
          (try simp at hz1)
          have HB1 : Hid (Below w.heap.size w w1) := Lib.hid (Below.step hb1 (by repeat (first | (with_reducible exact Below.refl _ _) | (with_reducible assumption) | ((with_reducible refine Below.alloc ?_ ?_ _); rotate_left; (first | omega | (simp <;> omega))) | ((with_reducible refine Below.setCell ?_ ?_ _); rotate_left; (first | omega | (simp <;> omega))) | (with_reducible refine below_drewN ?_ _) | (with_reducible refine Below.drew ?_) | ((with_reducible refine Below.step (by assumption) ?_ ?_); rotate_left; (first | omega | (simp <;> omega))))) (by first | omega | (simp <;> omega)))
          have HX1 : Hid (Own w1 w.heap.size 74 [.int .i64 0, .string ⟨#[]⟩, .int .i64 0, .int .i64 0]) := Lib.hid (Own.step hb1 (Own.alloc (Own.new w 74 #[_, _, _, _]) _))
          have b0 := HX1.out.cell 0
          have b1 := HX1.out.cell 1
          have b2 := HX1.out.cell 2
          have b3 := HX1.out.cell 3
          have bf := HX1.out.frozen
          have bz := HX1.out.lt
          (try dsimp only [List.getElem?_cons_succ, List.getElem?_cons_zero] at b0 b1 b2 b3)
          clear hb1
          go_wp2_with fail
          refine (HS2.out _).mono ?_
          rintro e w' ⟨rfl, rfl⟩
          go_wp2_with fail
          refine bodyPost_ret (v := .tuple #[tokV (0, [], 0, 0), .iface 64 (.pointer (some ⟨w1.heap.size + 1, 0, none⟩))]) (by simp [results, Tryz.results79, go_sem, *]) rfl ⟨⟨_, rfl, by omega, ?_⟩, (by repeat (first | (with_reducible exact Below.refl _ _) | (with_reducible exact HB1.out) | (with_reducible assumption) | ((with_reducible refine Below.alloc ?_ ?_ _); rotate_left; (first | omega | (simp <;> omega))) | ((with_reducible refine Below.setCell ?_ ?_ _); rotate_left; (first | omega | (simp <;> omega))) | (with_reducible refine below_drewN ?_ _) | (with_reducible refine Below.drew ?_) | ((with_reducible refine Below.step (by assumption) ?_ ?_); rotate_left; (first | omega | (simp <;> omega)))))⟩
          (with_reducible refine Own.at_new ?_); simp
        · have hq1' : ¬ (q : Int) < 1 := by omega
          have hq2' : (4 : Int) < q := by omega
          have hrr : r = none := by rw [HNX.out, numTok_bad HD.out H46.out HQ2.out (.inr hq1)]; rfl
          subst hrr
          go_enter Tryz.func79, Tryz.ntmps79
          go_wp2_with fail
          (with_reducible refine (HS1.out _).mono ?_)
          rintro e w' ⟨rfl, rfl⟩
          go_wp2_with fail
          refine (HV1.out _).mono ?_
          rintro e w1 ⟨rfl, hb1⟩
          have hz1 := hb1.size
          (try simp at hz1)
          have HB1 : Hid (Below w.heap.size w w1) := Lib.hid (Below.step hb1 (by repeat (first | (with_reducible exact Below.refl _ _) | (with_reducible assumption) | ((with_reducible refine Below.alloc ?_ ?_ _); rotate_left; (first | omega | (simp <;> omega))) | ((with_reducible refine Below.setCell ?_ ?_ _); rotate_left; (first | omega | (simp <;> omega))) | (with_reducible refine below_drewN ?_ _) | (with_reducible refine Below.drew ?_) | ((with_reducible refine Below.step (by assumption) ?_ ?_); rotate_left; (first | omega | (simp <;> omega))))) (by first | omega | (simp <;> omega)))
          have HX1 : Hid (Own w1 w.heap.size 74 [.int .i64 0, .string ⟨#[]⟩, .int .i64 0, .int .i64 0]) := Lib.hid (Own.step hb1 (Own.alloc (Own.new w 74 #[_, _, _, _]) _))
          have b0 := HX1.out.cell 0
          have b1 := HX1.out.cell 1
          have b2 := HX1.out.cell 2
          have b3 := HX1.out.cell 3
          have bf := HX1.out.frozen
          have bz := HX1.out.lt
          (try dsimp only [List.getElem?_cons_succ, List.getElem?_cons_zero] at b0 b1 b2 b3)
          clear hb1
          go_wp2_with fail
          refine (HS2.out _).mono ?_
          rintro e w' ⟨rfl, rfl⟩
          go_wp2_with fail
          refine bodyPost_ret (v := .tuple #[tokV (0, [], 0, 0), .iface 64 (.pointer (some ⟨w1.heap.size + 1, 0, none⟩))]) (by simp [results, Tryz.results79, go_sem, *]) rfl ⟨⟨_, rfl, by omega, ?_⟩, (by repeat (first | (with_reducible exact Below.refl _ _) | (with_reducible exact HB1.out) | (with_reducible assumption) | ((with_reducible refine Below.alloc ?_ ?_ _); rotate_left; (first | omega | (simp <;> omega))) | ((with_reducible refine Below.setCell ?_ ?_ _); rotate_left; (first | omega | (simp <;> omega))) | (with_reducible refine below_drewN ?_ _) | (with_reducible refine Below.drew ?_) | ((with_reducible refine Below.step (by assumption) ?_ ?_); rotate_left; (first | omega | (simp <;> omega)))))⟩
          (with_reducible refine Own.at_new ?_); simp
        · have hq1' : ¬ (q : Int) < 1 := by omega
          have hq2' : ¬ (4 : Int) < q := by omega
          obtain ⟨l2, hl2⟩ : ∃ l2, (src.drop (E + 1)).take q = l2 := ⟨_, rfl⟩
          have hl2l : l2.length = q := by rw [← hl2, List.length_take, List.length_drop]; omega
          have hdg2 : DG l2 l2.length := by rw [hl2l, ← hl2]; exact DG.of_span _ _ (by rw [HQ1.out]; exact Nat.le_refl _)
          have hv2 : valD l2 < 10000 := by
            have := hdg2.val
            rw [List.take_length] at this
            exact Nat.lt_of_lt_of_le this (Nat.le_trans (Nat.pow_le_pow_right (by omega) (show l2.length ≤ 4 by omega)) (Nat.le_refl _))
          have HV2 : Hid (∀ wx, Calls Tryz.prog 104 #[str l2] wx fun e w' => e = .returned (.int .i64 (valD l2)) ∧ Below wx.heap.size wx w') := Lib.hid (fun wx => I_valueOf l2 hdg2 (by omega) wx)
          have HPW : Hid (∀ wx, Calls Tryz.prog 66 #[.int .i64 q] wx fun e w' => e = .returned (.int .i64 ((10 ^ q : Nat) : Int)) ∧ wx = w') := Lib.hid (fun wx => I_power q (by omega) wx)
          obtain ⟨U, hU⟩ : ∃ U, 10 ^ q = U := ⟨_, rfl⟩
          have hU0 : 0 < U := by rw [← hU]; exact Nat.pow_pos (by omega)
          have hU1 : U ≤ 10000 := by rw [← hU]; exact Nat.pow_le_pow_right (by omega) hq4
          have HU := Lib.hid hU
          rw [hU] at HPW
          obtain ⟨F, hF⟩ : ∃ F, valD l2 = F := ⟨_, rfl⟩
          have HF := Lib.hid hF
          rw [hF] at hv2 HV2
          have HL2 := Lib.hid hl2
          have hex2 : ({ data := src.toArray } : ByteArray).extract (E + 1) (E + 1 + q) = ⟨l2.toArray⟩ := by rw [lex_part, hl2]
          obtain ⟨G, hG⟩ : ∃ G, E + 1 + q = G := ⟨_, rfl⟩
          have HGE := Lib.hid hG
          rw [hG] at hex2
          have hGl : G ≤ src.length := by omega
          have hg1 : IntKind.i64.wrap ((E : Int) + 1 + q) = G := by rw [show (E : Int) + 1 + q = ((G : Nat) : Int) by omega]; exact IntWalk.i64_in _ (by omega)
          have hg2 : (E : Int) + 1 + q = G := by omega
          have hg3 : (E : Int) + (1 + q) = G := by omega
          have hg4 : IntKind.i64.wrap ((1 : Int) + q) = 1 + q := IntWalk.i64_in _ (by omega)
          have hg5 : IntKind.i64.wrap ((E : Int) + (1 + q)) = G := by rw [show (E : Int) + (1 + q) = ((G : Nat) : Int) by omega]; exact IntWalk.i64_in _ (by omega)
          have i3 : (E : Int) + 1 ≤ G := by omega
          have i4 : (G : Int) ≤ src.length := by omega
          have i5 : (a : Int) ≤ G := by omega
          have hFw : IntKind.i64.wrap ((F : Int) * 256) = (F : Int) * 256 := IntWalk.i64_in _ (by omega)
          have hU2 : ¬ U = 0 := by omega
          obtain ⟨Q, hQn⟩ : ∃ Q, F * 256 / U = Q := ⟨_, rfl⟩
          have hQl : Q ≤ F * 256 := by rw [← hQn]; exact Nat.div_le_self _ _
          have HQN := Lib.hid hQn
          have hQ : (F : Int) * 256 / U = (Q : Int) := by rw [← hQn]; simp
          have hdv : Int.tdiv ((F : Int) * 256) U = (Q : Int) := by rw [show ((F : Int) * 256) = ((F * 256 : Nat) : Int) by omega, ← hQn]; rfl
          have hqw : IntKind.i64.wrap (Q : Int) = Q := IntWalk.i64_in _ (by omega)
          have hww : IntKind.i64.wrap ((V : Int) * 256 + Q) = (V : Int) * 256 + Q := IntWalk.i64_in _ (by omega)
          have HEX3 : Hid (({ data := src.toArray } : ByteArray).extract a G = ⟨((src.drop a).take (d + 1 + q)).toArray⟩) := Lib.hid (by rw [← lex_part]; congr 1; have := HE.out; omega)
          obtain ⟨l3, hl3⟩ : ∃ l3, (src.drop a).take (d + 1 + q) = l3 := ⟨_, rfl⟩
          have hex3 := HEX3.out
          rw [hl3] at hex3
          have hrr : r = some (1, l3, ((V * 256 + Q : Nat) : Int), (a : Int)) := by
            rw [HNX.out, numTok_dot HD.out H4.out H46.out HQ2.out (by omega)]
            simp only [Option.map_some]
            rw [HDR.out, HL2.out, HL1.out, HV.out, HF.out, HU.out, HQN.out, hl3]
          subst hrr
          clear hl2 hl2l hdg2 hU hF hG hQn hl3 HEX3
          go_enter Tryz.func79, Tryz.ntmps79
          go_wp2_with fail
          (with_reducible refine (HS1.out _).mono ?_)
          rintro e w' ⟨rfl, rfl⟩
          go_wp2_with fail
          refine (HV1.out _).mono ?_
          rintro e w1 ⟨rfl, hb1⟩
          have hz1 := hb1.size
          (try simp at hz1)
          have HB1 : Hid (Below w.heap.size w w1) := Lib.hid (Below.step hb1 (by repeat (first | (with_reducible exact Below.refl _ _) | (with_reducible assumption) | ((with_reducible refine Below.alloc ?_ ?_ _); rotate_left; (first | omega | (simp <;> omega))) | ((with_reducible refine Below.setCell ?_ ?_ _); rotate_left; (first | omega | (simp <;> omega))) | (with_reducible refine below_drewN ?_ _) | (with_reducible refine Below.drew ?_) | ((with_reducible refine Below.step (by assumption) ?_ ?_); rotate_left; (first | omega | (simp <;> omega))))) (by first | omega | (simp <;> omega)))
          have HX1 : Hid (Own w1 w.heap.size 74 [.int .i64 0, .string ⟨#[]⟩, .int .i64 0, .int .i64 0]) := Lib.hid (Own.step hb1 (Own.alloc (Own.new w 74 #[_, _, _, _]) _))
          have b0 := HX1.out.cell 0
          have b1 := HX1.out.cell 1
          have b2 := HX1.out.cell 2
          have b3 := HX1.out.cell 3
          have bf := HX1.out.frozen
          have bz := HX1.out.lt
          (try dsimp only [List.getElem?_cons_succ, List.getElem?_cons_zero] at b0 b1 b2 b3)
          clear hb1
          go_wp2_with fail
          refine (HS2.out _).mono ?_
          rintro e w' ⟨rfl, rfl⟩
          go_wp2_with fail
          refine (HV2.out _).mono ?_
          rintro e w2 ⟨rfl, hb2⟩
          have hz2 := hb2.size
          (try simp at hz2)
          have HB2 : Hid (Below w.heap.size w w2) := Lib.hid (Below.step hb2 (by repeat (first | (with_reducible exact Below.refl _ _) | (with_reducible exact HB1.out) | (with_reducible assumption) | ((with_reducible refine Below.alloc ?_ ?_ _); rotate_left; (first | omega | (simp <;> omega))) | ((with_reducible refine Below.setCell ?_ ?_ _); rotate_left; (first | omega | (simp <;> omega))) | (with_reducible refine below_drewN ?_ _) | (with_reducible refine Below.drew ?_) | ((with_reducible refine Below.step (by assumption) ?_ ?_); rotate_left; (first | omega | (simp <;> omega))))) (by first | omega | (simp <;> omega)))
          have HX2 : Hid (Own w2 w.heap.size 74 [.int .i64 0, .string ⟨#[]⟩, .int .i64 0, .int .i64 0]) := Lib.hid (Own.step hb2 (Own.alloc HX1.out _))
          clear b0 b1 b2 b3 bf bz
          have b0 := HX2.out.cell 0
          have b1 := HX2.out.cell 1
          have b2 := HX2.out.cell 2
          have b3 := HX2.out.cell 3
          have bf := HX2.out.frozen
          have bz := HX2.out.lt
          (try dsimp only [List.getElem?_cons_succ, List.getElem?_cons_zero] at b0 b1 b2 b3)
          clear hb2
          go_wp2_with fail
          (with_reducible refine (HPW.out _).mono ?_)
          rintro e w' ⟨rfl, rfl⟩
          go_wp2_with fail
          exact bodyPost_ret (v := .tuple #[tokV (1, l3, ((V * 256 + Q : Nat) : Int), (a : Int)), .nilIface]) (by simp [results, Tryz.results79, go_sem, *]) rfl ⟨rfl, (by repeat (first | (with_reducible exact Below.refl _ _) | (with_reducible exact HB2.out) | (with_reducible assumption) | ((with_reducible refine Below.alloc ?_ ?_ _); rotate_left; (first | omega | (simp <;> omega))) | ((with_reducible refine Below.setCell ?_ ?_ _); rotate_left; (first | omega | (simp <;> omega))) | (with_reducible refine below_drewN ?_ _) | (with_reducible refine Below.drew ?_) | ((with_reducible refine Below.step (by assumption) ?_ ?_); rotate_left; (first | omega | (simp <;> omega)))))⟩
      · have hne : ((b.toNat : Int) == 46) = false := by rw [beq_eq_false_iff_ne]; intro e; exact h46 (UInt8.toNat_inj.1 (by show b.toNat = 46; omega))
        have hrr := hNo.out (by rw [HBt.out]; intro e; injection e with e; exact h46 e)
        subst hrr
        clear h46
        go_enter Tryz.func79, Tryz.ntmps79
        go_wp2_with fail
        (with_reducible refine (HS1.out _).mono ?_)
        rintro e w' ⟨rfl, rfl⟩
        go_wp2_with fail
        refine (HV1.out _).mono ?_
        rintro e w1 ⟨rfl, hb1⟩
        have hz1 := hb1.size
        (try simp at hz1)
        have HB1 : Hid (Below w.heap.size w w1) := Lib.hid (Below.step hb1 (by repeat (first | (with_reducible exact Below.refl _ _) | (with_reducible assumption) | ((with_reducible refine Below.alloc ?_ ?_ _); rotate_left; (first | omega | (simp <;> omega))) | ((with_reducible refine Below.setCell ?_ ?_ _); rotate_left; (first | omega | (simp <;> omega))) | (with_reducible refine below_drewN ?_ _) | (with_reducible refine Below.drew ?_) | ((with_reducible refine Below.step (by assumption) ?_ ?_); rotate_left; (first | omega | (simp <;> omega))))) (by first | omega | (simp <;> omega)))
        have HX1 : Hid (Own w1 w.heap.size 74 [.int .i64 0, .string ⟨#[]⟩, .int .i64 0, .int .i64 0]) := Lib.hid (Own.step hb1 (Own.alloc (Own.new w 74 #[_, _, _, _]) _))
        have b0 := HX1.out.cell 0
        have b1 := HX1.out.cell 1
        have b2 := HX1.out.cell 2
        have b3 := HX1.out.cell 3
        have bf := HX1.out.frozen
        have bz := HX1.out.lt
        (try dsimp only [List.getElem?_cons_succ, List.getElem?_cons_zero] at b0 b1 b2 b3)
        clear hb1
        go_wp2_with fail
        exact bodyPost_ret (v := .tuple #[tokV (1, l1, ((V * 256 : Nat) : Int), (a : Int)), .nilIface]) (by simp [results, Tryz.results79, go_sem, *]) rfl ⟨rfl, (by repeat (first | (with_reducible exact Below.refl _ _) | (with_reducible exact HB1.out) | (with_reducible assumption) | ((with_reducible refine Below.alloc ?_ ?_ _); rotate_left; (first | omega | (simp <;> omega))) | ((with_reducible refine Below.setCell ?_ ?_ _); rotate_left; (first | omega | (simp <;> omega))) | (with_reducible refine below_drewN ?_ _) | (with_reducible refine Below.drew ?_) | ((with_reducible refine Below.step (by assumption) ?_ ?_); rotate_left; (first | omega | (simp <;> omega)))))⟩
    · have hge' : ¬ (E : Int) < src.length := by omega
      have hrr := hNo.out (by rw [List.getElem?_eq_none hge]; simp)
      subst hrr
      go_enter Tryz.func79, Tryz.ntmps79
      go_wp2_with fail
      (with_reducible refine (HS1.out _).mono ?_)
      rintro e w' ⟨rfl, rfl⟩
      go_wp2_with fail
      refine (HV1.out _).mono ?_
      rintro e w1 ⟨rfl, hb1⟩
      have hz1 := hb1.size
      (try simp at hz1)
      have HB1 : Hid (Below w.heap.size w w1) := Lib.hid (Below.step hb1 (by repeat (first | (with_reducible exact Below.refl _ _) | (with_reducible assumption) | ((with_reducible refine Below.alloc ?_ ?_ _); rotate_left; (first | omega | (simp <;> omega))) | ((with_reducible refine Below.setCell ?_ ?_ _); rotate_left; (first | omega | (simp <;> omega))) | (with_reducible refine below_drewN ?_ _) | (with_reducible refine Below.drew ?_) | ((with_reducible refine Below.step (by assumption) ?_ ?_); rotate_left; (first | omega | (simp <;> omega))))) (by first | omega | (simp <;> omega)))
      have HX1 : Hid (Own w1 w.heap.size 74 [.int .i64 0, .string ⟨#[]⟩, .int .i64 0, .int .i64 0]) := Lib.hid (Own.step hb1 (Own.alloc (Own.new w 74 #[_, _, _, _]) _))
      have b0 := HX1.out.cell 0
      have b1 := HX1.out.cell 1
      have b2 := HX1.out.cell 2
      have b3 := HX1.out.cell 3
      have bf := HX1.out.frozen
      have bz := HX1.out.lt
      (try dsimp only [List.getElem?_cons_succ, List.getElem?_cons_zero] at b0 b1 b2 b3)
      clear hb1
      go_wp2_with fail
      exact bodyPost_ret (v := .tuple #[tokV (1, l1, ((V * 256 : Nat) : Int), (a : Int)), .nilIface]) (by simp [results, Tryz.results79, go_sem, *]) rfl ⟨rfl, (by repeat (first | (with_reducible exact Below.refl _ _) | (with_reducible exact HB1.out) | (with_reducible assumption) | ((with_reducible refine Below.alloc ?_ ?_ _); rotate_left; (first | omega | (simp <;> omega))) | ((with_reducible refine Below.setCell ?_ ?_ _); rotate_left; (first | omega | (simp <;> omega))) | (with_reducible refine below_drewN ?_ _) | (with_reducible refine Below.drew ?_) | ((with_reducible refine Below.step (by assumption) ?_ ?_); rotate_left; (first | omega | (simp <;> omega)))))⟩
end Go.Proofs.YtnlbojckobgjpaaGreatDoor
