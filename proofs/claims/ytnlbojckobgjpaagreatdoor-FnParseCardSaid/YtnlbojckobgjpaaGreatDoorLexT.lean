/- The reference's lexer: one token; all tokens. -/
import Derived.Test.YtnlbojckobgjpaaGreatDoorLexS
import Derived.Test.YtnlbojckobgjpaaGreatDoorMgA
import Derived.Test.YtnlbojckobgjpaaGreatDoorMgD
import Derived.Lib.SlBytesConst
set_option linter.unusedVariables false
set_option linter.unusedSimpArgs false
namespace Go.Proofs.YtnlbojckobgjpaaGreatDoor
open Go.RowKit Go.Lib
set_option maxRecDepth 100000
abbrev tokV (x : ETok) : Value := .agg #[.int .i64 x.1, str x.2.1, .int .i64 x.2.2.1, .int .i64 x.2.2.2]
def cTok (x : ETok) : List Value := [.int .i64 x.1, str x.2.1, .int .i64 x.2.2.1, .int .i64 x.2.2.2]
abbrev rTok (l : List ETok) : List Value := rowOf cTok l
theorem rTok_len (l : List ETok) : (rTok l).length = l.length * 4 := rowOf_len (f := cTok) (s := 4) (fun _ => rfl) l
theorem rTok_at {l : List ETok} {k : Nat} (hk : k < l.length) : (rTok l)[k * 4]? = some (.int .i64 l[k].1) ∧ (rTok l)[k * 4 + 1]? = some (str l[k].2.1) ∧ (rTok l)[k * 4 + 2]? = some (.int .i64 l[k].2.2.1) ∧ (rTok l)[k * 4 + 3]? = some (.int .i64 l[k].2.2.2) := by
  have h := rowOf_at (f := cTok) (s := 4) (fun _ => rfl) l k
  exact ⟨h 0 hk (by omega), h 1 hk (by omega), h 2 hk (by omega), h 3 hk (by omega)⟩
theorem rTok_one (l : List ETok) : ∀ u ∈ rTok l, u.oneCell' = true := by
  intro u hu
  obtain ⟨x, _, hx⟩ := List.mem_flatMap.1 hu
  simp only [cTok, List.mem_cons, List.not_mem_nil, or_false] at hx
  rcases hx with rfl | rfl | rfl | rfl <;> rfl
theorem rTok_snoc (l : List ETok) (x : ETok) : rTok l ++ rTok [x] = rTok (l ++ [x]) := by simp [rTok, rowOf]
theorem lex_extract (l : List UInt8) (a b : Nat) : ({ data := l.toArray } : ByteArray).extract a b = ⟨((l.take b).drop a).toArray⟩ := by
  apply ByteArray.ext
  rw [ByteArray.data_extract]
  apply Array.ext'
  simp [List.extract_eq_take_drop, List.drop_take]
theorem lex_part (l : List UInt8) (a m : Nat) : ({ data := l.toArray } : ByteArray).extract a (a + m) = ⟨((l.drop a).take m).toArray⟩ := by
  rw [lex_extract, List.drop_take]
  congr 3; omega
theorem numTok_le {l : List UInt8} {m n : Nat} (h : numTok l = some (m, n)) : n ≤ 5119744 := by
  unfold numTok at h
  dsimp only at h
  split at h
  · cases h
  · rename_i h4
    have hd : DG l (spanN isDg l) := fun j hj => spanN_in hj
    have h1 := hd.val
    have h2 : 10 ^ (spanN isDg l) ≤ 10 ^ 4 := Nat.pow_le_pow_right (by omega) (by omega)
    split at h
    · split at h
      · cases h
      · rename_i h3
        have hd2 : DG (l.drop (spanN isDg l + 1)) (spanN isDg (l.drop (spanN isDg l + 1))) := fun j hj => spanN_in hj
        have h5 := hd2.val
        simp only [Option.some.injEq, Prod.mk.injEq] at h
        have h6 : valD ((l.drop (spanN isDg l + 1)).take (spanN isDg (l.drop (spanN isDg l + 1)))) * 256 / 10 ^ (spanN isDg (l.drop (spanN isDg l + 1))) ≤ 256 := by
          rw [Nat.div_le_iff_le_mul_add_pred (Nat.pow_pos (by omega))]
          have := Nat.mul_le_mul_left 256 (Nat.le_of_lt h5)
          rw [Nat.mul_comm _ 256, Nat.mul_comm _ 256]
          omega
        omega
    · simp only [Option.some.injEq, Prod.mk.injEq] at h
      omega
/-- What l12Scan answers. -/
def ScanRes (src : List UInt8) (a : Nat) (v : Value) : Prop :=
  match scanTok (src.drop a) with
  | none => ∃ (x : ETok) (e : Nat), v = .tuple #[tokV x, .int .i64 e, .bool false]
  | some (k, m, n) => v = .tuple #[tokV (k, (src.drop a).take m, (n : Int), (a : Int)), .int .i64 ((a + m : Nat) : Int), .bool true]
theorem ScanRes.no {src : List UInt8} {a e : Nat} {x : ETok} (h : scanTok (src.drop a) = none) : ScanRes src a (.tuple #[tokV x, .int .i64 e, .bool false]) := by unfold ScanRes; rw [h]; exact ⟨x, e, rfl⟩
theorem ScanRes.yes {src : List UInt8} {a m n : Nat} {k : Int} (h : scanTok (src.drop a) = some (k, m, n)) : ScanRes src a (.tuple #[tokV (k, (src.drop a).take m, (n : Int), (a : Int)), .int .i64 ((a + m : Nat) : Int), .bool true]) := by unfold ScanRes; rw [h]
theorem drop_head {src : List UInt8} {a : Nat} {b : UInt8} (h : src[a]? = some b) : ∃ l, src.drop a = b :: l := by
  obtain ⟨hl, rfl⟩ := List.getElem?_eq_some_iff.1 h
  exact ⟨_, List.drop_eq_getElem_cons hl⟩
theorem scan_num {l : List UInt8} {b : UInt8} (h : ∃ q, l = b :: q) (hd : isDg b = true) : scanTok l = (numTok l).map fun x => (1, x.1, x.2) := by
  obtain ⟨q, rfl⟩ := h
  unfold scanTok
  simp only [hd, if_true]
def isNm (c : UInt8) : Bool := isLt c || isDg c
theorem scan_name {l : List UInt8} {b : UInt8} (h : ∃ q, l = b :: q) (hd : isDg b = false) (hl : isLt b = true) : scanTok l = if 8 < spanN isNm l then none else some (2, spanN isNm l, 0) := by
  obtain ⟨q, rfl⟩ := h
  unfold scanTok
  simp only [hd, hl, if_true, Bool.false_eq_true, if_false]
  rfl
theorem scan_sym {l : List UInt8} {b : UInt8} (h : ∃ q, l = b :: q) (hd : isDg b = false) (hl : isLt b = false) : scanTok l = if isSy b then some (3, 1, 0) else none := by
  obtain ⟨q, rfl⟩ := h
  unfold scanTok
  simp only [hd, hl, Bool.false_eq_true, if_false]
/-- The first k bytes are of a name. -/
def NG (l : List UInt8) (k : Nat) : Prop := ∀ j, j < k → ∃ b, l[j]? = some b ∧ isNm b = true
theorem NG.succ {l : List UInt8} {k : Nat} {b : UInt8} (h : NG l k) (hb : l[k]? = some b) (hd : isNm b = true) : NG l (k + 1) := by
  intro j hj
  by_cases e : j = k
  · subst e; exact ⟨b, hb, hd⟩
  · exact h j (by omega)
theorem isSy_yes {k : Nat} {x : UInt8} (h : symB[k]? = some x) : isSy x = true := by
  unfold isSy
  rw [List.contains_iff_mem]
  exact List.mem_of_getElem? h
theorem isSy_no {b : UInt8} (h : ∀ j, j < 9 → symB[j]? ≠ some b) : isSy b = false := by
  cases hs : isSy b with
  | false => rfl
  | true =>
    unfold isSy at hs
    rw [List.contains_iff_mem] at hs
    obtain ⟨j, hj, e⟩ := List.mem_iff_getElem.1 hs
    exact absurd (by rw [List.getElem?_eq_getElem hj, e]) (h j hj)
theorem sym_cell (w : World) (X : Obj) (e : TypeId) {k : Nat} {x : UInt8} (h : symB[k]? = some x) :
    ((w.alloc X).alloc (.cells #[.int .u8 43, .int .u8 45, .int .u8 42, .int .u8 47, .int .u8 40, .int .u8 41, .int .u8 44, .int .u8 61, .int .u8 59] e (9, 10))).cell? ⟨w.heap.size + 1, k, none⟩ = some (.int .u8 x.toNat) := by
  have hh := heap_alloc_new (w.alloc X) (.cells #[.int .u8 43, .int .u8 45, .int .u8 42, .int .u8 47, .int .u8 40, .int .u8 41, .int .u8 44, .int .u8 61, .int .u8 59] e (9, 10))
  rw [World.size_alloc] at hh
  have hs : (#[.int .u8 43, .int .u8 45, .int .u8 42, .int .u8 47, .int .u8 40, .int .u8 41, .int .u8 44, .int .u8 61, .int .u8 59] : Array Value) = (symB.map (fun b => Value.int .u8 b.toNat)).toArray := rfl
  have e2 : (symB.map (fun b => Value.int .u8 b.toNat))[k]? = some (.int .u8 x.toNat) := by rw [List.getElem?_map, h]; rfl
  unfold World.cell?
  dsimp only
  rw [hh, hs]
  show (symB.map (fun b => Value.int .u8 b.toNat)).toArray[k]? = _
  rw [List.getElem?_toArray]
  exact e2
theorem symB_at {k : Nat} (hk : k < 9) : ∃ x, symB[k]? = some x := ⟨_, List.getElem?_eq_getElem hk⟩
theorem T.infoToken : (Tryz.prog.info? 74).map (fun i => (i.zero, i.size, i.bytes)) = some (some (.agg #[.int .i64 0, .string ByteArray.empty, .int .i64 0, .int .i64 0]), 4, 40) := by kernel_rfl
set_option maxHeartbeats 8000000 in
theorem S_l12Scan {src : List UInt8} {a : Nat} (w : World) (ha : a < src.length) (hs : src.length ≤ 1048576) :
    Calls Tryz.prog 58 #[str src, .int .i64 a] w fun e w' => ∃ v, e = .returned v ∧ ScanRes src a v ∧ Below w.heap.size w w' := by
  obtain ⟨b, hb⟩ : ∃ b, src[a]? = some b := ⟨_, List.getElem?_eq_getElem ha⟩
  have hat := lx_at hb
  have HQ := Lib.hid (drop_head hb)
  have ha' : (a : Int) < src.length := by omega
  clear hb
  have HDG : Hid (∀ (b : UInt8) wx, Calls Tryz.prog 84 #[.int .u8 b.toNat] wx fun e w' => e = .returned (.bool (isDg b)) ∧ wx = w') := Lib.hid S_l12Digit
  have HLT : Hid (∀ (b : UInt8) wx, Calls Tryz.prog 86 #[.int .u8 b.toNat] wx fun e w' => e = .returned (.bool (isLt b)) ∧ wx = w') := Lib.hid S_l12Letter
  cases hd : isDg b with
  | true =>
    have HD1 : Hid (∀ wx, Calls Tryz.prog 84 #[.int .u8 b.toNat] wx fun e w' => e = .returned (.bool true) ∧ wx = w') := Lib.hid (fun wx => by have := HDG.out b wx; rw [hd] at this; exact this)
    have HSC := Lib.hid (scan_num HQ.out hd)
    have HNU : Hid (∀ wx, Calls Tryz.prog 85 #[str src, .int .i64 a] wx fun e w' => ∃ v, e = .returned v ∧ NumRes src a v ∧ Below wx.heap.size wx w') := Lib.hid (fun wx => S_l12Number wx (Nat.le_of_lt ha) hs)
    clear hd
    go_enter Tryz.func58, Tryz.ntmps58
    go_wp2_with (first | (go_at_call 84; refine (HD1.out _).mono ?_; rintro e w' ⟨rfl, rfl⟩) | fail)
    refine (HNU.out _).mono ?_
    rintro e w1 ⟨v, rfl, hv, hb1⟩
    have hz1 := hb1.size
    (try simp at hz1)
    have c0 : ∀ o, w1.cell? ⟨w.heap.size, o, none⟩ = _ := fun o => hb1.cell (p := ⟨w.heap.size, o, none⟩) (by simp)
    have f0 : ∀ o, w1.frozen? ⟨w.heap.size, o, none⟩ = _ := fun o => hb1.frozen (p := ⟨w.heap.size, o, none⟩) (by simp)
    have HB1 : Hid (Below w.heap.size w w1) := Lib.hid (Below.step hb1 (by repeat (first | (with_reducible exact Below.refl _ _) | (with_reducible assumption) | ((with_reducible refine Below.alloc ?_ ?_ _); rotate_left; (first | omega | (simp <;> omega))) | ((with_reducible refine Below.setCell ?_ ?_ _); rotate_left; (first | omega | (simp <;> omega))) | (with_reducible refine below_drewN ?_ _) | (with_reducible refine Below.drew ?_) | ((with_reducible refine Below.step (by assumption) ?_ ?_); rotate_left; (first | omega | (simp <;> omega))))) (by first | omega | (simp <;> omega)))
    clear hb1
    unfold NumRes at hv
    cases hn : numTok (src.drop a) with
    | none =>
      rw [hn] at hv
      obtain ⟨e, n, rfl, he1, he2⟩ := hv
      have HF : Hid (scanTok (src.drop a) = none) := Lib.hid (by rw [HSC.out, hn]; rfl)
      have i1 : (a : Int) ≤ e := by omega
      have i2 : (e : Int) ≤ src.length := by omega
      obtain ⟨u, hu⟩ : ∃ u, (src.take e).drop a = u := ⟨_, rfl⟩
      have hex : ({ data := src.toArray } : ByteArray).extract a e = ⟨u.toArray⟩ := by rw [lex_extract, hu]
      clear hn hu
      go_wp2_with fail
      exact bodyPost_ret (v := .tuple #[tokV (1, u, n, (a : Int)), .int .i64 e, .bool false]) (by simp [results, Tryz.results58, go_sem, *]) rfl ⟨_, rfl, ScanRes.no HF.out, (by repeat (first | (with_reducible exact Below.refl _ _) | (with_reducible exact HB1.out) | (with_reducible assumption) | ((with_reducible refine Below.alloc ?_ ?_ _); rotate_left; (first | omega | (simp <;> omega))) | ((with_reducible refine Below.setCell ?_ ?_ _); rotate_left; (first | omega | (simp <;> omega))) | (with_reducible refine below_drewN ?_ _) | (with_reducible refine Below.drew ?_) | ((with_reducible refine Below.step (by assumption) ?_ ?_); rotate_left; (first | omega | (simp <;> omega)))))⟩
    | some x =>
      obtain ⟨m, n⟩ := x
      rw [hn] at hv
      dsimp only at hv
      subst hv
      have HF : Hid (scanTok (src.drop a) = some (1, m, n)) := Lib.hid (by rw [HSC.out, hn]; rfl)
      have hm := (numTok_len hn).1
      rw [List.length_drop] at hm
      have hex : ({ data := src.toArray } : ByteArray).extract a (a + m) = ⟨((src.drop a).take m).toArray⟩ := lex_part _ _ _
      have i1 : (a : Int) ≤ ((a + m : Nat) : Int) := by omega
      have i2 : ((a + m : Nat) : Int) ≤ src.length := by omega
      obtain ⟨E, hE⟩ : ∃ E, a + m = E := ⟨_, rfl⟩
      have HE := Lib.hid hE
      rw [hE] at i1 i2 hex ⊢
      obtain ⟨u, hu⟩ : ∃ u, (src.drop a).take m = u := ⟨_, rfl⟩
      have HU := Lib.hid hu
      rw [hu] at hex
      clear hn hE hu
      go_wp2_with fail
      exact bodyPost_ret (v := .tuple #[tokV (1, u, (n : Int), (a : Int)), .int .i64 E, .bool true]) (by simp [results, Tryz.results58, go_sem, *]) rfl ⟨_, rfl, by have := ScanRes.yes HF.out; rw [HE.out, HU.out] at this; exact this, (by repeat (first | (with_reducible exact Below.refl _ _) | (with_reducible exact HB1.out) | (with_reducible assumption) | ((with_reducible refine Below.alloc ?_ ?_ _); rotate_left; (first | omega | (simp <;> omega))) | ((with_reducible refine Below.setCell ?_ ?_ _); rotate_left; (first | omega | (simp <;> omega))) | (with_reducible refine below_drewN ?_ _) | (with_reducible refine Below.drew ?_) | ((with_reducible refine Below.step (by assumption) ?_ ?_); rotate_left; (first | omega | (simp <;> omega)))))⟩
  | false =>
    have HD0 : Hid (∀ wx, Calls Tryz.prog 84 #[.int .u8 b.toNat] wx fun e w' => e = .returned (.bool false) ∧ wx = w') := Lib.hid (fun wx => by have := HDG.out b wx; rw [hd] at this; exact this)
    cases hl : isLt b with
    | true =>
      have HL1 : Hid (∀ wx, Calls Tryz.prog 86 #[.int .u8 b.toNat] wx fun e w' => e = .returned (.bool true) ∧ wx = w') := Lib.hid (fun wx => by have := HLT.out b wx; rw [hl] at this; exact this)
      have HSC := Lib.hid (scan_name HQ.out hd hl)
      clear hd hl
      go_enter Tryz.func58, Tryz.ntmps58
      go_wp2_with (first | (go_at_call 84; refine (HD0.out _).mono ?_; rintro e w' ⟨rfl, rfl⟩) | (go_at_call 86; refine (HL1.out _).mono ?_; rintro e w' ⟨rfl, rfl⟩) | fail)
      go_loop [11] (fun p => ∃ i : Nat, a ≤ i ∧ i ≤ src.length ∧ p = .int .i64 i ∧ NG (src.drop a) (i - a)) (fun p => src.length - (RowKit.intOf p).toNat)
      case atStart => exact ⟨a, Nat.le_refl _, by omega, rfl, by rw [Nat.sub_self]; exact fun j hj => absurd hj (by omega)⟩
      case round =>
        obtain ⟨i, hai, hil, rfl, hng⟩ := hrel
        have HNG := Lib.hid hng
        clear hng
        have hat0 : (src.drop a)[i - a]? = src[i]? := by rw [List.getElem?_drop]; congr 1; omega
        have HAT := Lib.hid hat0
        clear hat0
        have FIN : Hid (∀ u : List UInt8, u = (src.take i).drop a → spanN isNm (src.drop a) = i - a → ScanRes src a (.tuple #[tokV (2, u, 0, (a : Int)), .int .i64 i, .bool (decide ((i : Int) - a ≤ 8))])) := Lib.hid (fun u hu hsp => by
          by_cases h8 : 8 < i - a
          · rw [decide_eq_false (by omega)]
            exact ScanRes.no (by rw [HSC.out, hsp, if_pos h8])
          · rw [decide_eq_true (by omega)]
            have := ScanRes.yes (src := src) (a := a) (m := i - a) (n := 0) (k := 2) (by rw [HSC.out, hsp, if_neg h8])
            rw [show a + (i - a) = i by omega, ← List.drop_take, ← hu] at this
            exact this)
        obtain ⟨u, hu⟩ : ∃ u, (src.take i).drop a = u := ⟨_, rfl⟩
        have HU := Lib.hid hu
        have hex : ({ data := src.toArray } : ByteArray).extract a i = ⟨u.toArray⟩ := by rw [lex_extract, hu]
        clear hu
        have i1 : (a : Int) ≤ i := by omega
        have i2 : (i : Int) ≤ src.length := by omega
        rcases Nat.lt_or_ge i src.length with hlt | hge
        · obtain ⟨c, hc⟩ : ∃ c, src[i]? = some c := ⟨_, List.getElem?_eq_getElem hlt⟩
          have hatc := lx_at hc
          have HC := Lib.hid (HAT.out.trans hc)
          have hlt' : (i : Int) < src.length := by omega
          clear hc
          have ARM : Hid (∀ wx, Calls Tryz.prog 84 #[.int .u8 c.toNat] wx fun e w' => e = .returned (.bool (isDg c)) ∧ wx = w') := Lib.hid (HDG.out c)
          cases hcl : isLt c with
          | true =>
            have HNX := Lib.hid (HNG.out.succ HC.out (by unfold isNm; rw [hcl]; rfl))
            have HLc : Hid (∀ wx, Calls Tryz.prog 86 #[.int .u8 c.toNat] wx fun e w' => e = .returned (.bool true) ∧ wx = w') := Lib.hid (fun wx => by have := HLT.out c wx; rw [hcl] at this; exact this)
            clear hcl
            go_wp2_with (first | (go_at_call 86; refine (HLc.out _).mono ?_; rintro e w' ⟨rfl, rfl⟩) | fail)
            go_round
            case rel => exact ⟨i + 1, by omega, by omega, by go_num, by rw [show i + 1 - a = i - a + 1 by omega]; exact HNX.out⟩
            case measure => simp [RowKit.intOf]; omega
          | false =>
            have HLc : Hid (∀ wx, Calls Tryz.prog 86 #[.int .u8 c.toNat] wx fun e w' => e = .returned (.bool false) ∧ wx = w') := Lib.hid (fun wx => by have := HLT.out c wx; rw [hcl] at this; exact this)
            cases hcd : isDg c with
            | true =>
              have HNX := Lib.hid (HNG.out.succ HC.out (by unfold isNm; rw [hcl, hcd]; rfl))
              have HDc : Hid (∀ wx, Calls Tryz.prog 84 #[.int .u8 c.toNat] wx fun e w' => e = .returned (.bool true) ∧ wx = w') := Lib.hid (fun wx => by have := HDG.out c wx; rw [hcd] at this; exact this)
              clear hcl hcd
              go_wp2_with (first | (go_at_call 86; refine (HLc.out _).mono ?_; rintro e w' ⟨rfl, rfl⟩) | (go_at_call 84; refine (HDc.out _).mono ?_; rintro e w' ⟨rfl, rfl⟩) | fail)
              go_round
              case rel => exact ⟨i + 1, by omega, by omega, by go_num, by rw [show i + 1 - a = i - a + 1 by omega]; exact HNX.out⟩
              case measure => simp [RowKit.intOf]; omega
            | false =>
              have HSP : Hid (spanN isNm (src.drop a) = i - a) := Lib.hid (spanN_eq HNG.out (fun c' hc' => by rw [HC.out] at hc'; injection hc' with hc'; subst hc'; unfold isNm; rw [hcl, hcd]; rfl))
              have HDc : Hid (∀ wx, Calls Tryz.prog 84 #[.int .u8 c.toNat] wx fun e w' => e = .returned (.bool false) ∧ wx = w') := Lib.hid (fun wx => by have := HDG.out c wx; rw [hcd] at this; exact this)
              clear hcl hcd
              go_wp2_with (first | (go_at_call 86; refine (HLc.out _).mono ?_; rintro e w' ⟨rfl, rfl⟩) | (go_at_call 84; refine (HDc.out _).mono ?_; rintro e w' ⟨rfl, rfl⟩) | fail)
              exact bodyPost_ret (v := .tuple #[tokV (2, u, 0, (a : Int)), .int .i64 i, .bool (decide ((i : Int) - a ≤ 8))]) (by simp [results, Tryz.results58, go_sem, *]) rfl ⟨_, rfl, FIN.out u HU.out.symm HSP.out, (by repeat (first | (with_reducible exact Below.refl _ _) | (with_reducible assumption) | ((with_reducible refine Below.alloc ?_ ?_ _); rotate_left; (first | omega | (simp <;> omega))) | ((with_reducible refine Below.setCell ?_ ?_ _); rotate_left; (first | omega | (simp <;> omega))) | (with_reducible refine below_drewN ?_ _) | (with_reducible refine Below.drew ?_) | ((with_reducible refine Below.step (by assumption) ?_ ?_); rotate_left; (first | omega | (simp <;> omega)))))⟩
        · obtain rfl : i = src.length := by omega
          have HSP : Hid (spanN isNm (src.drop a) = src.length - a) := Lib.hid (spanN_eq HNG.out (fun c' hc' => by rw [HAT.out, List.getElem?_eq_none (Nat.le_refl _)] at hc'; cases hc'))
          go_wp2_with fail
          exact bodyPost_ret (v := .tuple #[tokV (2, u, 0, (a : Int)), .int .i64 src.length, .bool (decide ((src.length : Int) - a ≤ 8))]) (by simp [results, Tryz.results58, go_sem, *]) rfl ⟨_, rfl, FIN.out u HU.out.symm HSP.out, (by repeat (first | (with_reducible exact Below.refl _ _) | (with_reducible assumption) | ((with_reducible refine Below.alloc ?_ ?_ _); rotate_left; (first | omega | (simp <;> omega))) | ((with_reducible refine Below.setCell ?_ ?_ _); rotate_left; (first | omega | (simp <;> omega))) | (with_reducible refine below_drewN ?_ _) | (with_reducible refine Below.drew ?_) | ((with_reducible refine Below.step (by assumption) ?_ ?_); rotate_left; (first | omega | (simp <;> omega)))))⟩
    | false =>
      have HL0 : Hid (∀ wx, Calls Tryz.prog 86 #[.int .u8 b.toNat] wx fun e w' => e = .returned (.bool false) ∧ wx = w') := Lib.hid (fun wx => by have := HLT.out b wx; rw [hl] at this; exact this)
      have HSC := Lib.hid (scan_sym HQ.out hd hl)
      clear hd hl
      have kc : ∀ (X : Obj) (C : Array Value) (n c : Nat), (convert 22 22 (.slice (some ⟨w.heap.size + 1, 0, none⟩) n c)).run Tryz.prog ((w.alloc X).alloc (.cells C 5)) = .ok (.slice (some ⟨w.heap.size + 1, 0, none⟩) n c) ((w.alloc X).alloc (.cells C 5 (C.size, C.size + 1))) := fun X C n c => by
        have := Lib.run_convert_bytes_const (P := Tryz.prog) (w.alloc X) 22 5 C n c Tryz.underlying22 Tryz.underlying5
        rwa [World.size_alloc] at this
      go_enter Tryz.func58, Tryz.ntmps58
      go_wp2_with (first | (go_at_call 84; refine (HD0.out _).mono ?_; rintro e w' ⟨rfl, rfl⟩) | (go_at_call 86; refine (HL0.out _).mono ?_; rintro e w' ⟨rfl, rfl⟩) | fail)
      go_loop [13, 70] (fun _ p => ∃ k : Nat, k ≤ 9 ∧ p = .int .i64 k ∧ ∀ j, j < k → symB[j]? ≠ some b) (fun _ p => 9 - (RowKit.intOf p).toNat)
      case atStart => exact ⟨0, by omega, rfl, fun j hj => absurd hj (by omega)⟩
      case round =>
        obtain ⟨k, hk9, rfl, hno⟩ := hrel
        have HNO := Lib.hid hno
        clear hno
        by_cases hk : k < 9
        · obtain ⟨x, hx⟩ := symB_at hk
          have hc := sym_cell w (.cells #[.int .i64 0, .string ⟨#[]⟩, .int .i64 0, .int .i64 0] 74) 5 hx
          have hk' : (k : Int) < 9 := by omega
          by_cases e : x = b
          · subst e
            have HF : Hid (scanTok (src.drop a) = some (3, 1, 0)) := Lib.hid (by rw [HSC.out, if_pos (isSy_yes hx)])
            have hex : ({ data := src.toArray } : ByteArray).extract a (a + 1) = ⟨((src.drop a).take 1).toArray⟩ := lex_part _ _ _
            obtain ⟨u, hu⟩ : ∃ u, (src.drop a).take 1 = u := ⟨_, rfl⟩
            have HU := Lib.hid hu
            rw [hu] at hex
            clear hu hx
            have i1 : (a : Int) + 1 ≤ src.length := by omega
            go_wp2_with fail
            exact bodyPost_ret (v := .tuple #[tokV (3, u, 0, (a : Int)), .int .i64 ((a + 1 : Nat) : Int), .bool true]) (by simp [results, Tryz.results58, go_sem, *]) rfl ⟨_, rfl, by have := ScanRes.yes HF.out; rw [HU.out] at this; exact this, (by repeat (first | (with_reducible exact Below.refl _ _) | (with_reducible assumption) | ((with_reducible refine Below.alloc ?_ ?_ _); rotate_left; (first | omega | (simp <;> omega))) | ((with_reducible refine Below.setCell ?_ ?_ _); rotate_left; (first | omega | (simp <;> omega))) | (with_reducible refine below_drewN ?_ _) | (with_reducible refine Below.drew ?_) | ((with_reducible refine Below.step (by assumption) ?_ ?_); rotate_left; (first | omega | (simp <;> omega)))))⟩
          · have e' : ((x.toNat : Int) == b.toNat) = false := by
              rw [beq_eq_false_iff_ne]; intro h; exact e (UInt8.toNat_inj.1 (by omega))
            have HN : Hid (∀ j, j < k + 1 → symB[j]? ≠ some b) := Lib.hid (fun j hj => by
              by_cases ej : j = k
              · subst ej; rw [hx]; intro h; injection h with h; exact e h
              · exact HNO.out j (by omega))
            clear hx
            go_wp2_with fail
            go_round
            case rel => exact ⟨k + 1, by omega, by go_num, HN.out⟩
            case measure => simp [RowKit.intOf]; omega
        · obtain rfl : k = 9 := by omega
          have HF : Hid (scanTok (src.drop a) = none) := Lib.hid (by rw [HSC.out, isSy_no HNO.out]; rfl)
          go_wp2_with fail
          exact bodyPost_ret (v := .tuple #[tokV (0, [], 0, 0), .int .i64 a, .bool false]) (by simp [results, Tryz.results58, go_sem, *]) rfl ⟨_, rfl, ScanRes.no HF.out, (by repeat (first | (with_reducible exact Below.refl _ _) | (with_reducible assumption) | ((with_reducible refine Below.alloc ?_ ?_ _); rotate_left; (first | omega | (simp <;> omega))) | ((with_reducible refine Below.setCell ?_ ?_ _); rotate_left; (first | omega | (simp <;> omega))) | (with_reducible refine below_drewN ?_ _) | (with_reducible refine Below.drew ?_) | ((with_reducible refine Below.step (by assumption) ?_ ?_); rotate_left; (first | omega | (simp <;> omega)))))⟩
/-- What the loop keeps: the tokens so far. -/
def TkTo (src : List UInt8) (a : Nat) (l : List ETok) : Prop := l.length ≤ a ∧ ∀ n, src.length < a + n → tokz src n a l = tokz src (src.length + 1) 0 []
theorem TkTo.zero (src : List UInt8) : TkTo src 0 [] := ⟨Nat.le_refl _, fun n h => tokz_fuel _ _ _ _ h (by omega)⟩
theorem TkTo.space {src : List UInt8} {a : Nat} {l : List ETok} {b : UInt8} (h : TkTo src a l) (hb : src[a]? = some b) (hs : isSp b = true) : TkTo src (a + 1) l :=
  ⟨by have := h.1; omega, fun n hn => by rw [← h.2 (n + 1) (by omega), tokz_space hb hs]⟩
theorem TkTo.tok {src : List UInt8} {a m v : Nat} {k : Int} {l : List ETok} {b : UInt8} (h : TkTo src a l) (hb : src[a]? = some b) (hs : isSp b = false) (hk : scanTok (src.drop a) = some (k, m, v)) : TkTo src (a + m) (l ++ [(k, (src.drop a).take m, (v : Int), (a : Int))]) :=
  ⟨by have := h.1; have := scanTok_len hk; simp; omega, fun n hn => by
    rw [← h.2 (n + m) (by omega)]
    have := scanTok_len hk
    obtain ⟨j, rfl⟩ : ∃ j, m = j + 1 := ⟨m - 1, by omega⟩
    rw [show n + (j + 1) = (n + j) + 1 by omega, tokz_tok hb hs hk]
    exact tokz_fuel _ _ _ _ (by omega) (by omega)⟩
theorem TkTo.bad {src : List UInt8} {a : Nat} {l : List ETok} {b : UInt8} (h : TkTo src a l) (hlen : ¬ 2000 < src.length) (hb : src[a]? = some b) (hs : isSp b = false) (hk : scanTok (src.drop a) = none) : toksF src = .error a := by
  unfold toksF
  rw [if_neg hlen, ← h.2 (src.length + 1) (by omega), tokz_bad hb hs hk]
  rfl
theorem TkTo.done {src : List UInt8} {l : List ETok} (h : TkTo src src.length l) (hlen : ¬ 2000 < src.length) : toksF src = .ok (l ++ [(0, [], 0, (src.length : Int))]) := by
  unfold toksF
  rw [if_neg hlen, ← h.2 1 (by omega), tokz_end (Nat.le_refl _)]
  rfl
theorem toksF_long {src : List UInt8} (h : 2000 < src.length) : toksF src = .error 0 := by unfold toksF; rw [if_pos h]
def OutToks (src : List UInt8) (t : TypeId) (w : World) (e : Ending) (w' : World) : Prop :=
  match toksF src with
  | .error o => e = .returned (.tuple #[.slice none 0 0, .int .i64 o]) ∧ Below w.heap.size w w'
  | .ok T => ∃ A c, e = .returned (.tuple #[.slice A T.length c, .int .i64 (-1)]) ∧ Grow w' w.heap.size t 4 A T.length c (rTok T) ∧ Below w.heap.size w w'
theorem OutToks.no {src : List UInt8} {t : TypeId} {w w' : World} {o : Nat} (h : toksF src = .error o) (hb : Below w.heap.size w w') : OutToks src t w (.returned (.tuple #[.slice none 0 0, .int .i64 o])) w' := by
  unfold OutToks; rw [h]; exact ⟨rfl, hb⟩
theorem OutToks.yes {src : List UInt8} {t : TypeId} {w w' : World} {T : List ETok} {A : Option Addr} {n c : Nat} (h : toksF src = .ok T) (hn : n = T.length) (hg : Grow w' w.heap.size t 4 A n c (rTok T)) (hb : Below w.heap.size w w') : OutToks src t w (.returned (.tuple #[.slice A n c, .int .i64 (-1)])) w' := by
  subst hn; unfold OutToks; rw [h]; exact ⟨_, _, rfl, hg, hb⟩
theorem isSp_no {b : UInt8} (h1 : ¬ b = 32) (h2 : ¬ b = 10) : isSp b = false := by simp [isSp, h1, h2]
set_option maxHeartbeats 8000000 in
theorem S_Tokenize {src : List UInt8} (w : World) (hs : src.length ≤ 1048576) :
    Calls Tryz.prog 27 #[str src] w (OutToks src 74 w) := by
  rcases Nat.lt_or_ge 2000 src.length with hlen | hlen
  · have HF := Lib.hid (toksF_long hlen)
    have h1 : (2000 : Int) < src.length := by omega
    go_enter Tryz.func27, Tryz.ntmps27
    go_wp2_with fail
    go_ret2
    exact OutToks.no HF.out (Below.refl _ _)
  · have h1 : ¬ (2000 : Int) < src.length := by omega
    have HL : Hid (¬ 2000 < src.length) := Lib.hid (by omega)
    have HG0 : Hid (Grow (w.alloc (.cells #[] 74)) w.heap.size 74 4 (some ⟨w.heap.size, 0, none⟩) 0 0 []) := Lib.hid (Grow.lit w #[] 0 rfl (Nat.le_refl _) (Nat.zero_le _))
    go_enter Tryz.func27, Tryz.ntmps27
    go_wp2_with fail
    go_loopw [4, 5] (fun o_ a_ wr => ∃ (a : Nat) (l : List ETok) (A : Option Addr) (c : Nat), a ≤ src.length ∧ a_ = .int .i64 a ∧ o_ = .slice A l.length c ∧ TkTo src a l ∧ Grow wr w.heap.size 74 4 A l.length c (rTok l) ∧ Below w.heap.size w wr) (fun _ a_ _ => src.length - (RowKit.intOf a_).toNat)
    case atStart => exact ⟨0, [], _, _, Nat.zero_le _, rfl, rfl, TkTo.zero _, HG0.out, (by repeat (first | (with_reducible exact Below.refl _ _) | (with_reducible assumption) | ((with_reducible refine Below.alloc ?_ ?_ _); rotate_left; (first | omega | (simp <;> omega))) | ((with_reducible refine Below.setCell ?_ ?_ _); rotate_left; (first | omega | (simp <;> omega))) | (with_reducible refine below_drewN ?_ _) | (with_reducible refine Below.drew ?_) | ((with_reducible refine Below.step (by assumption) ?_ ?_); rotate_left; (first | omega | (simp <;> omega)))))⟩
    case round =>
      obtain ⟨a, l, A, c, hal, rfl, rfl, ht, hg, hb⟩ := hrel
      obtain ⟨wo, rfl⟩ : ∃ wo, wo = wr := ⟨_, rfl⟩
      have hla := ht.1
      have hz := hb.size
      have HT := Lib.hid ht
      have HG := Lib.hid hg
      have HB := Lib.hid hb
      clear ht hg hb HG0
      rcases Nat.lt_or_ge a src.length with hlt | hge
      · obtain ⟨b, hb⟩ : ∃ b, src[a]? = some b := ⟨_, List.getElem?_eq_getElem hlt⟩
        have hat := lx_at hb
        have HBt := Lib.hid hb
        have hlt' : (a : Int) < src.length := by omega
        clear hb
        by_cases h32 : b = 32
        · subst h32
          have HN := Lib.hid (HT.out.space HBt.out (by decide))
          go_wp2_with fail
          go_roundw
          case rel => exact ⟨a + 1, l, _, _, by omega, by go_num, rfl, HN.out, HG.out, HB.out⟩
          case measure => simp [RowKit.intOf]; omega
        · by_cases h10 : b = 10
          · subst h10
            have HN := Lib.hid (HT.out.space HBt.out (by decide))
            go_wp2_with fail
            go_roundw
            case rel => exact ⟨a + 1, l, _, _, by omega, by go_num, rfl, HN.out, HG.out, HB.out⟩
            case measure => simp [RowKit.intOf]; omega
          · have HSP := Lib.hid (isSp_no h32 h10)
            have e1 : ((b.toNat : Int) == 32) = false := by rw [beq_eq_false_iff_ne]; intro h; exact h32 (UInt8.toNat_inj.1 (by show b.toNat = 32; omega))
            have e2 : ((b.toNat : Int) == 10) = false := by rw [beq_eq_false_iff_ne]; intro h; exact h10 (UInt8.toNat_inj.1 (by show b.toNat = 10; omega))
            have HSC : Hid (∀ wx, Calls Tryz.prog 58 #[str src, .int .i64 a] wx fun e w' => ∃ v, e = .returned v ∧ ScanRes src a v ∧ Below wx.heap.size wx w') := Lib.hid (fun wx => S_l12Scan wx hlt hs)
            clear h32 h10
            cases hk : scanTok (src.drop a) with
            | none =>
              have HF := Lib.hid (HT.out.bad HL.out HBt.out HSP.out hk)
              have HC : Hid (∀ wx, Calls Tryz.prog 58 #[str src, .int .i64 a] wx fun e w' => ∃ (x : ETok) (e' : Nat), e = .returned (.tuple #[tokV x, .int .i64 e', .bool false]) ∧ Below wx.heap.size wx w') := Lib.hid (fun wx => (HSC.out wx).mono (fun e w' h => by obtain ⟨v, rfl, hv, hb⟩ := h; unfold ScanRes at hv; rw [hk] at hv; obtain ⟨x, e', rfl⟩ := hv; exact ⟨x, e', rfl, hb⟩))
              clear hk
              go_wp2_with (first | (go_at_call 58; refine (HC.out _).mono ?_; rintro e w1 ⟨x, e', rfl, hb1⟩; have hz1 := hb1.size; have HB1 : Hid (Below w.heap.size w w1) := Lib.hid (Below.step hb1 HB.out HB.out.size); clear hb1) | fail)
              go_ret2
              exact OutToks.no HF.out (by repeat (first | (with_reducible exact Below.refl _ _) | (with_reducible exact HB1.out) | (with_reducible assumption) | ((with_reducible refine Below.alloc ?_ ?_ _); rotate_left; (first | omega | (simp <;> omega))) | ((with_reducible refine Below.setCell ?_ ?_ _); rotate_left; (first | omega | (simp <;> omega))) | (with_reducible refine below_drewN ?_ _) | (with_reducible refine Below.drew ?_) | ((with_reducible refine Below.step (by assumption) ?_ ?_); rotate_left; (first | omega | (simp <;> omega)))))
            | some q =>
              obtain ⟨k, m, v⟩ := q
              have hm := scanTok_len hk
              rw [List.length_drop] at hm
              have HN := Lib.hid (HT.out.tok HBt.out HSP.out hk)
              obtain ⟨u, hu⟩ : ∃ u, (src.drop a).take m = u := ⟨_, rfl⟩
              obtain ⟨E, hE⟩ : ∃ E, a + m = E := ⟨_, rfl⟩
              have HC : Hid (∀ wx, Calls Tryz.prog 58 #[str src, .int .i64 a] wx fun e w' => e = .returned (.tuple #[tokV (k, u, (v : Int), (a : Int)), .int .i64 E, .bool true]) ∧ Below wx.heap.size wx w') := Lib.hid (fun wx => (HSC.out wx).mono (fun e w' h => by obtain ⟨v, rfl, hv, hb⟩ := h; unfold ScanRes at hv; rw [hk] at hv; dsimp only at hv; rw [hu, hE] at hv; subst hv; exact ⟨rfl, hb⟩))
              rw [hu, hE] at HN
              have hE1 : E ≤ src.length := by omega
              have hE2 : a < E := by omega
              clear hk hu hE hm
              go_wp2_with (first | (go_at_call 58; refine (HC.out _).mono ?_; rintro e w1 ⟨rfl, hb1⟩; have hz1 := hb1.size; have HB1 : Hid (Below w.heap.size w w1) := Lib.hid (Below.step hb1 HB.out HB.out.size); have HG1 := Lib.hid (Grow.step hb1 HG.out); clear hb1) | (at_builtin; refine wpList_app (by rfl) _ _ 31 (by rfl) (w.heap.size) 74 (.agg #[.int .i64 0, .string ByteArray.empty, .int .i64 0, .int .i64 0]) 4 40 Tryz.underlying31 T.infoToken rfl (by decide) (xs := rTok l) (by rfl) ?_ (ys := rTok [(k, u, (v : Int), (a : Int))]) (by rfl) ?_ (rTok_one _) ?_ ?_ ?_ ?_; (exact (by repeat (first | (with_reducible exact HG1.out) | (with_reducible refine Grow.alloc ?_ _) | (with_reducible refine Grow.drewN ?_ _) | (with_reducible refine Grow.drew ?_) | ((with_reducible refine Grow.far ?_ ?_ _); rotate_left; (first | omega | (simp <;> omega))) | (with_reducible refine Grow.step (by assumption) ?_)))); (exact (Grow.rs (base := 0) (n := 1) (c := 1) (by repeat (first | (with_reducible refine Grow.drewN ?_ _) | (with_reducible refine Grow.drew ?_) | (refine Grow.lit_at (by simp) (by rfl) (Nat.zero_le _) (by unfold maxLen; omega)))))); (unfold maxLen; omega); (omega); (first | omega | (simp <;> omega)); rintro A' c' w2 gA; have g1 := gA.1; have g2 := gA.2.1; rw [rTok_snoc] at g1; have HG2 := Lib.hid g1; have HB2 : Hid (Below w.heap.size w w2) := Lib.hid (Below.trans (by repeat (first | (with_reducible exact Below.refl _ _) | (with_reducible exact HB1.out) | (with_reducible assumption) | ((with_reducible refine Below.alloc ?_ ?_ _); rotate_left; (first | omega | (simp <;> omega))) | ((with_reducible refine Below.setCell ?_ ?_ _); rotate_left; (first | omega | (simp <;> omega))) | (with_reducible refine below_drewN ?_ _) | (with_reducible refine Below.drew ?_) | ((with_reducible refine Below.step (by assumption) ?_ ?_); rotate_left; (first | omega | (simp <;> omega))))) g2); clear gA g1 g2) | fail)
              go_roundw
              case rel => exact ⟨E, _, _, _, hE1, rfl, by rw [List.length_append]; rfl, HN.out, by rw [List.length_append]; exact HG2.out, HB2.out⟩
              case measure => simp [RowKit.intOf]; omega
      · obtain rfl : a = src.length := by omega
        have HF := Lib.hid (HT.out.done HL.out)
        go_wp2_with (first | (at_builtin; refine wpList_app (by rfl) _ _ 31 (by rfl) (w.heap.size) 74 (.agg #[.int .i64 0, .string ByteArray.empty, .int .i64 0, .int .i64 0]) 4 40 Tryz.underlying31 T.infoToken rfl (by decide) (xs := rTok l) (by rfl) ?_ (ys := rTok [(0, [], 0, (src.length : Int))]) (by rfl) ?_ (rTok_one _) ?_ ?_ ?_ ?_; (exact (by repeat (first | (with_reducible exact HG.out) | (with_reducible refine Grow.alloc ?_ _) | (with_reducible refine Grow.drewN ?_ _) | (with_reducible refine Grow.drew ?_) | ((with_reducible refine Grow.far ?_ ?_ _); rotate_left; (first | omega | (simp <;> omega))) | (with_reducible refine Grow.step (by assumption) ?_)))); (exact (Grow.rs (base := 0) (n := 1) (c := 1) (by repeat (first | (with_reducible refine Grow.drewN ?_ _) | (with_reducible refine Grow.drew ?_) | (refine Grow.lit_at (by simp) (by rfl) (Nat.zero_le _) (by unfold maxLen; omega)))))); (unfold maxLen; omega); (omega); (first | omega | (simp <;> omega)); rintro A' c' w2 gA; have g1 := gA.1; have g2 := gA.2.1; rw [rTok_snoc] at g1; have HG2 := Lib.hid g1; have HB2 : Hid (Below w.heap.size w w2) := Lib.hid (Below.trans (by repeat (first | (with_reducible exact Below.refl _ _) | (with_reducible exact HB.out) | (with_reducible assumption) | ((with_reducible refine Below.alloc ?_ ?_ _); rotate_left; (first | omega | (simp <;> omega))) | ((with_reducible refine Below.setCell ?_ ?_ _); rotate_left; (first | omega | (simp <;> omega))) | (with_reducible refine below_drewN ?_ _) | (with_reducible refine Below.drew ?_) | ((with_reducible refine Below.step (by assumption) ?_ ?_); rotate_left; (first | omega | (simp <;> omega))))) g2); clear gA g1 g2) | fail)
        go_ret2
        exact OutToks.yes HF.out (by rw [List.length_append]; rfl) HG2.out HB2.out
end Go.Proofs.YtnlbojckobgjpaaGreatDoor
