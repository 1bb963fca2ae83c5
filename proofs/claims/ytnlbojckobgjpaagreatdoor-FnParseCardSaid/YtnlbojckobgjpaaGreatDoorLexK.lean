/- The program's lexer: one token, the row of tokens. -/
import Derived.Test.YtnlbojckobgjpaaGreatDoorLexJ
import Derived.Laws.EntriesVeiled
set_option linter.unusedVariables false
set_option linter.unusedSimpArgs false
namespace Go.Proofs.YtnlbojckobgjpaaGreatDoor
open Go.RowKit Go.Lib
set_option maxRecDepth 100000
def tokX (src : List UInt8) (a : Nat) : Option ETok := (scanTok (src.drop a)).map fun x => (x.1, (src.drop a).take x.2.1, (x.2.2 : Int), (a : Int))
theorem tokX_num {src : List UInt8} {a : Nat} {b : UInt8} (h : ∃ q, src.drop a = b :: q) (hd : isDg b = true) : tokX src a = numX src a := by
  unfold tokX numX
  rw [scan_num h hd]
  cases numTok (src.drop a) <;> rfl
theorem kindK_dg {b : UInt8} (h : isSp b = false) (hd : isDg b = true) : kindK b = 2 := by unfold kindK; rw [h, hd]; rfl
theorem kindK_lt {b : UInt8} (h : isSp b = false) (hd : isDg b = false) (hl : isLt b = true) : kindK b = 3 := by unfold kindK; rw [h, hd, hl]; rfl
theorem kindK_sy {b : UInt8} (h : isSp b = false) (hd : isDg b = false) (hl : isLt b = false) (hs : isSy b = true) : kindK b = 4 := by unfold kindK; rw [h, hd, hl, hs]; rfl
theorem kindK_no {b : UInt8} (h : isSp b = false) (hd : isDg b = false) (hl : isLt b = false) (hs : isSy b = false) : kindK b = 0 := by unfold kindK; rw [h, hd, hl, hs]; rfl
theorem take_one {src : List UInt8} {a : Nat} {b : UInt8} (h : ∃ q, src.drop a = b :: q) : (src.drop a).take 1 = [b] := by obtain ⟨q, hq⟩ := h; rw [hq]; rfl
set_option maxHeartbeats 2000000 in
theorem I_tokenAt {src : List UInt8} {a : Nat} {b : UInt8} (w : World) (hb : src[a]? = some b) (hsp : isSp b = false) (hs : src.length ≤ 1048576) :
    Calls Tryz.prog 52 #[str src, .int .i64 a] w (NumI src a (tokX src a) w) := by
  have ha : a < src.length := by
    rcases Nat.lt_or_ge a src.length with h | h
    · exact h
    · rw [List.getElem?_eq_none h] at hb; cases hb
  have hat := lx_at hb
  have HQ := Lib.hid (drop_head hb)
  have ha' : (a : Int) < src.length := by omega
  clear hb
  have HKO : Hid (∀ wx : World, Calls Tryz.prog 51 #[.int .u8 b.toNat] wx fun e w' => e = .returned (.int .i64 (kindK b)) ∧ wx = w') := Lib.hid (I_kindOf b)
  have HX : Hid (∀ b : UInt8, (∃ q, src.drop a = b :: q) → tokX src a = (scanTok (src.drop a)).map fun x => (x.1, (src.drop a).take x.2.1, (x.2.2 : Int), (a : Int))) := Lib.hid (fun _ _ => rfl)
  cases hd : isDg b with
  | true =>
    rw [kindK_dg hsp hd] at HKO
    have HN : Hid (∀ wx, Calls Tryz.prog 79 #[str src, .int .i64 a] wx (NumI src a (tokX src a) wx)) := Lib.hid (fun wx => by rw [tokX_num HQ.out hd]; exact I_numberAt wx (Nat.le_of_lt ha) hs)
    clear hd hsp HX
    cases hx : tokX src a with
    | none =>
      rw [hx] at HN
      have HN2 : Hid (∀ wx, Calls Tryz.prog 79 #[str src, .int .i64 a] wx fun e w' => (∃ g, e = .returned (.tuple #[tokV (0, [], 0, 0), .iface 64 (.pointer (some ⟨g, 0, none⟩))]) ∧ wx.heap.size ≤ g ∧ Own w' g 67 [.int .i64 a]) ∧ Below wx.heap.size wx w') := Lib.hid HN.out
      clear HN hx
      go_enter Tryz.func52, Tryz.ntmps52
      go_wp2_with (first | (go_at_call 51; refine (HKO.out _).mono ?_; rintro e w' ⟨rfl, rfl⟩) | fail)
      refine (HN2.out _).mono ?_
      rintro e w1 ⟨⟨g, rfl, hg, ho⟩, hb1⟩
      have hz1 := hb1.size
      (try simp at hz1 hg)
      have hg2 := ho.lt
      have HB1 : Hid (Below w.heap.size w w1) := Lib.hid (Below.step hb1 (by repeat (first | (with_reducible exact Below.refl _ _) | (with_reducible assumption) | ((with_reducible refine Below.alloc ?_ ?_ _); rotate_left; (first | omega | (simp <;> omega))) | ((with_reducible refine Below.setCell ?_ ?_ _); rotate_left; (first | omega | (simp <;> omega))) | (with_reducible refine below_drewN ?_ _) | (with_reducible refine Below.drew ?_) | ((with_reducible refine Below.step (by assumption) ?_ ?_); rotate_left; (first | omega | (simp <;> omega))))) (by first | omega | (simp <;> omega)))
      have HX1 : Hid (Own w1 w.heap.size 74 [.int .i64 0, .string ⟨#[]⟩, .int .i64 0, .int .i64 0]) := Lib.hid (Own.step hb1 (Own.new w 74 #[_, _, _, _]))
      have HO := Lib.hid ho
      have b0 := HX1.out.cell 0
      have b1 := HX1.out.cell 1
      have b2 := HX1.out.cell 2
      have b3 := HX1.out.cell 3
      have bf := HX1.out.frozen
      have bz := HX1.out.lt
      (try dsimp only [List.getElem?_cons_succ, List.getElem?_cons_zero] at b0 b1 b2 b3)
      clear hb1 ho
      go_wp2_with fail
      refine bodyPost_ret (v := .tuple #[tokV (0, [], 0, 0), .iface 64 (.pointer (some ⟨g, 0, none⟩))]) (by simp [results, Tryz.results52, go_sem, *]) rfl ⟨⟨_, rfl, by omega, ?_⟩, (by repeat (first | (with_reducible exact Below.refl _ _) | (with_reducible exact HB1.out) | (with_reducible assumption) | ((with_reducible refine Below.alloc ?_ ?_ _); rotate_left; (first | omega | (simp <;> omega))) | ((with_reducible refine Below.setCell ?_ ?_ _); rotate_left; (first | omega | (simp <;> omega))) | (with_reducible refine below_drewN ?_ _) | (with_reducible refine Below.drew ?_) | ((with_reducible refine Below.step (by assumption) ?_ ?_); rotate_left; (first | omega | (simp <;> omega)))))⟩
      exact (by repeat (first | (with_reducible exact HO.out) | ((with_reducible refine Own.far ?_ ?_ _); rotate_left; (first | omega | (simp <;> omega))) | (with_reducible refine Own.alloc ?_ _) | (with_reducible refine Own.drewN ?_ _) | (with_reducible refine Own.drew ?_) | (with_reducible refine Own.step (by assumption) ?_)))
    | some r =>
      rw [hx] at HN
      have HN2 : Hid (∀ wx, Calls Tryz.prog 79 #[str src, .int .i64 a] wx fun e w' => e = .returned (.tuple #[tokV r, .nilIface]) ∧ Below wx.heap.size wx w') := Lib.hid HN.out
      clear HN hx
      go_enter Tryz.func52, Tryz.ntmps52
      go_wp2_with (first | (go_at_call 51; refine (HKO.out _).mono ?_; rintro e w' ⟨rfl, rfl⟩) | fail)
      refine (HN2.out _).mono ?_
      rintro e w1 ⟨rfl, hb1⟩
      have hz1 := hb1.size
      (try simp at hz1)
      have HB1 : Hid (Below w.heap.size w w1) := Lib.hid (Below.step hb1 (by repeat (first | (with_reducible exact Below.refl _ _) | (with_reducible assumption) | ((with_reducible refine Below.alloc ?_ ?_ _); rotate_left; (first | omega | (simp <;> omega))) | ((with_reducible refine Below.setCell ?_ ?_ _); rotate_left; (first | omega | (simp <;> omega))) | (with_reducible refine below_drewN ?_ _) | (with_reducible refine Below.drew ?_) | ((with_reducible refine Below.step (by assumption) ?_ ?_); rotate_left; (first | omega | (simp <;> omega))))) (by first | omega | (simp <;> omega)))
      have HX1 : Hid (Own w1 w.heap.size 74 [.int .i64 0, .string ⟨#[]⟩, .int .i64 0, .int .i64 0]) := Lib.hid (Own.step hb1 (Own.new w 74 #[_, _, _, _]))
      have b0 := HX1.out.cell 0
      have b1 := HX1.out.cell 1
      have b2 := HX1.out.cell 2
      have b3 := HX1.out.cell 3
      have bf := HX1.out.frozen
      have bz := HX1.out.lt
      (try dsimp only [List.getElem?_cons_succ, List.getElem?_cons_zero] at b0 b1 b2 b3)
      clear hb1
      go_wp2_with fail
      exact bodyPost_ret (v := .tuple #[tokV r, .nilIface]) (by simp [results, Tryz.results52, go_sem, *]) rfl ⟨rfl, (by repeat (first | (with_reducible exact Below.refl _ _) | (with_reducible exact HB1.out) | (with_reducible assumption) | ((with_reducible refine Below.alloc ?_ ?_ _); rotate_left; (first | omega | (simp <;> omega))) | ((with_reducible refine Below.setCell ?_ ?_ _); rotate_left; (first | omega | (simp <;> omega))) | (with_reducible refine below_drewN ?_ _) | (with_reducible refine Below.drew ?_) | ((with_reducible refine Below.step (by assumption) ?_ ?_); rotate_left; (first | omega | (simp <;> omega)))))⟩
  | false =>
    cases hl : isLt b with
    | true =>
      rw [kindK_lt hsp hd hl] at HKO
      have HTX : Hid (tokX src a = if 8 < spanN isNm (src.drop a) then none else some (2, (src.drop a).take (spanN isNm (src.drop a)), 0, (a : Int))) := Lib.hid (by
        unfold tokX; rw [scan_name HQ.out hd hl]; split <;> rfl)
      clear hd hsp HX hl
      obtain ⟨d, hdd⟩ : ∃ d, spanN isNm (src.drop a) = d := ⟨_, rfl⟩
      have hdl := spanN_le isNm (src.drop a)
      rw [hdd, List.length_drop] at hdl
      have HS2 : Hid (∀ X : Obj, Calls Tryz.prog 80 #[str src, .int .i64 a, .slice (some ⟨w.heap.size + 1, 0, none⟩) 2 2] ((w.alloc X).alloc (.cells #[.int .i64 3, .int .i64 2] 3)) fun e w' => e = .returned (.int .i64 (d : Int)) ∧ (w.alloc X).alloc (.cells #[.int .i64 3, .int .i64 2] 3) = w') := Lib.hid (fun X => by have := I_span2 (w.alloc X) (Nat.le_of_lt ha) hs (g := w.heap.size + 1) (by simp); rw [hdd] at this; exact this)
      rw [hdd] at HTX
      clear hdd
      by_cases h8 : 8 < d
      · have h8' : (8 : Int) < d := by omega
        have hx : tokX src a = none := by rw [HTX.out, if_pos h8]
        rw [hx]
        clear hx h8 HTX
        go_enter Tryz.func52, Tryz.ntmps52
        go_wp2_with (first | (go_at_call 51; refine (HKO.out _).mono ?_; rintro e w' ⟨rfl, rfl⟩) | fail)
        (with_reducible refine (HS2.out _).mono ?_)
        rintro e w' ⟨rfl, rfl⟩
        go_wp2_with fail
        refine bodyPost_ret (v := .tuple #[tokV (0, [], 0, 0), .iface 64 (.pointer (some ⟨w.heap.size + 1 + 1, 0, none⟩))]) (by simp [results, Tryz.results52, go_sem]) rfl ⟨⟨_, rfl, by omega, ?_⟩, (by repeat (first | (with_reducible exact Below.refl _ _) | (with_reducible assumption) | ((with_reducible refine Below.alloc ?_ ?_ _); rotate_left; (first | omega | (simp <;> omega))) | ((with_reducible refine Below.setCell ?_ ?_ _); rotate_left; (first | omega | (simp <;> omega))) | (with_reducible refine below_drewN ?_ _) | (with_reducible refine Below.drew ?_) | ((with_reducible refine Below.step (by assumption) ?_ ?_); rotate_left; (first | omega | (simp <;> omega)))))⟩
        (with_reducible refine Own.at_new ?_); simp
      · have h8' : ¬ (8 : Int) < d := by omega
        have hx : tokX src a = some (2, (src.drop a).take d, 0, (a : Int)) := by rw [HTX.out, if_neg h8]
        rw [hx]
        clear hx h8 HTX
        obtain ⟨u, hu⟩ : ∃ u, (src.drop a).take d = u := ⟨_, rfl⟩
        have hex : ({ data := src.toArray } : ByteArray).extract a (a + d) = ⟨u.toArray⟩ := by rw [lex_part, hu]
        rw [hu]
        obtain ⟨E, hE⟩ : ∃ E, a + d = E := ⟨_, rfl⟩
        have had : IntKind.i64.wrap ((a : Int) + d) = E := by rw [show (a : Int) + d = ((E : Nat) : Int) by omega]; exact IntWalk.i64_in _ (by omega)
        have hEi : (a : Int) + d = E := by omega
        rw [hE] at hex
        have i1 : (a : Int) ≤ E := by omega
        have i2 : (E : Int) ≤ src.length := by omega
        clear hu hE
        go_enter Tryz.func52, Tryz.ntmps52
        go_wp2_with (first | (go_at_call 51; refine (HKO.out _).mono ?_; rintro e w' ⟨rfl, rfl⟩) | fail)
        (with_reducible refine (HS2.out _).mono ?_)
        rintro e w' ⟨rfl, rfl⟩
        go_wp2_with fail
        exact bodyPost_ret (v := .tuple #[tokV (2, u, 0, (a : Int)), .nilIface]) (by simp [results, Tryz.results52, go_sem, *]) rfl ⟨rfl, (by repeat (first | (with_reducible exact Below.refl _ _) | (with_reducible assumption) | ((with_reducible refine Below.alloc ?_ ?_ _); rotate_left; (first | omega | (simp <;> omega))) | ((with_reducible refine Below.setCell ?_ ?_ _); rotate_left; (first | omega | (simp <;> omega))) | (with_reducible refine below_drewN ?_ _) | (with_reducible refine Below.drew ?_) | ((with_reducible refine Below.step (by assumption) ?_ ?_); rotate_left; (first | omega | (simp <;> omega)))))⟩
    | false =>
      cases hy : isSy b with
      | true =>
        rw [kindK_sy hsp hd hl hy] at HKO
        have hx : tokX src a = some (3, [b], 0, (a : Int)) := by
          unfold tokX; rw [scan_sym HQ.out hd hl, if_pos hy]
          simp only [Option.map_some]
          rw [take_one HQ.out]; rfl
        rw [hx]
        have hex : ({ data := src.toArray } : ByteArray).extract a (a + 1) = ⟨[b].toArray⟩ := by rw [lex_part, take_one HQ.out]
        have had : IntKind.i64.wrap ((a : Int) + 1) = a + 1 := IntWalk.i64_in _ (by omega)
        have i2 : (a : Int) + 1 ≤ src.length := by omega
        obtain ⟨u, hu⟩ : ∃ u, [b] = u := ⟨_, rfl⟩
        rw [hu] at hex ⊢
        clear hd hsp HX hl hy hx hu
        go_enter Tryz.func52, Tryz.ntmps52
        go_wp2_with (first | (go_at_call 51; refine (HKO.out _).mono ?_; rintro e w' ⟨rfl, rfl⟩) | fail)
        exact bodyPost_ret (v := .tuple #[tokV (3, u, 0, (a : Int)), .nilIface]) (by simp [results, Tryz.results52, go_sem, *]) rfl ⟨rfl, (by repeat (first | (with_reducible exact Below.refl _ _) | (with_reducible assumption) | ((with_reducible refine Below.alloc ?_ ?_ _); rotate_left; (first | omega | (simp <;> omega))) | ((with_reducible refine Below.setCell ?_ ?_ _); rotate_left; (first | omega | (simp <;> omega))) | (with_reducible refine below_drewN ?_ _) | (with_reducible refine Below.drew ?_) | ((with_reducible refine Below.step (by assumption) ?_ ?_); rotate_left; (first | omega | (simp <;> omega)))))⟩
      | false =>
        rw [kindK_no hsp hd hl hy] at HKO
        have hx : tokX src a = none := by
          unfold tokX; rw [scan_sym HQ.out hd hl, if_neg (by rw [hy]; decide)]; rfl
        rw [hx]
        clear hd hsp HX hl hy hx
        go_enter Tryz.func52, Tryz.ntmps52
        go_wp2_with (first | (go_at_call 51; refine (HKO.out _).mono ?_; rintro e w' ⟨rfl, rfl⟩) | fail)
        refine bodyPost_ret (v := .tuple #[tokV (0, [], 0, 0), .iface 64 (.pointer (some ⟨w.heap.size + 1, 0, none⟩))]) (by simp [results, Tryz.results52, go_sem]) rfl ⟨⟨_, rfl, by omega, ?_⟩, (by repeat (first | (with_reducible exact Below.refl _ _) | (with_reducible assumption) | ((with_reducible refine Below.alloc ?_ ?_ _); rotate_left; (first | omega | (simp <;> omega))) | ((with_reducible refine Below.setCell ?_ ?_ _); rotate_left; (first | omega | (simp <;> omega))) | (with_reducible refine below_drewN ?_ _) | (with_reducible refine Below.drew ?_) | ((with_reducible refine Below.step (by assumption) ?_ ?_); rotate_left; (first | omega | (simp <;> omega)))))⟩
        (with_reducible refine Own.at_new ?_); simp
/-- What tokenize answers. -/
def OutTokz (src : List UInt8) (w : World) (e : Ending) (w' : World) : Prop :=
  match toksF src with
  | .error o => (∃ g, e = .returned (.tuple #[.slice none 0 0, .iface 64 (.pointer (some ⟨g, 0, none⟩))]) ∧ w.heap.size ≤ g ∧ Own w' g 67 [.int .i64 o]) ∧ Below w.heap.size w w'
  | .ok T => ∃ A c, e = .returned (.tuple #[.slice A T.length c, .nilIface]) ∧ Grow w' w.heap.size 74 4 A T.length c (rTok T) ∧ Below w.heap.size w w'
theorem OutTokz.no {src : List UInt8} {w w' : World} {o g : Nat} (h : toksF src = .error o) (hg : w.heap.size ≤ g) (ho : Own w' g 67 [.int .i64 o]) (hb : Below w.heap.size w w') : OutTokz src w (.returned (.tuple #[.slice none 0 0, .iface 64 (.pointer (some ⟨g, 0, none⟩))])) w' := by
  unfold OutTokz; rw [h]; exact ⟨⟨_, rfl, hg, ho⟩, hb⟩
theorem OutTokz.yes {src : List UInt8} {w w' : World} {T : List ETok} {A : Option Addr} {n c : Nat} (h : toksF src = .ok T) (hn : n = T.length) (hg : Grow w' w.heap.size 74 4 A n c (rTok T)) (hb : Below w.heap.size w w') : OutTokz src w (.returned (.tuple #[.slice A n c, .nilIface])) w' := by
  subst hn; unfold OutTokz; rw [h]; exact ⟨_, _, rfl, hg, hb⟩
set_option maxHeartbeats 4000000 in
theorem I_tokenize {src : List UInt8} (w : World) (hs : src.length ≤ 1048576) :
    Calls Tryz.prog 22 #[str src] w (OutTokz src w) := by
  have HG0 : Hid (Grow (w.alloc (.cells #[] 74)) w.heap.size 74 4 (some ⟨w.heap.size, 0, none⟩) 0 0 []) := Lib.hid (Grow.lit w #[] 0 rfl (Nat.le_refl _) (Nat.zero_le _))
  rcases Nat.lt_or_ge 2000 src.length with hlen | hlen
  · have HF := Lib.hid (toksF_long hlen)
    have h1 : (2000 : Int) < src.length := by omega
    go_enter Tryz.func22, Tryz.ntmps22
    go_wp2_with fail
    go_ret2
    refine OutTokz.no HF.out (Nat.le_succ_of_le (Nat.le_refl _)) ?_ (by repeat (first | (with_reducible exact Below.refl _ _) | (with_reducible assumption) | ((with_reducible refine Below.alloc ?_ ?_ _); rotate_left; (first | omega | (simp <;> omega))) | ((with_reducible refine Below.setCell ?_ ?_ _); rotate_left; (first | omega | (simp <;> omega))) | (with_reducible refine below_drewN ?_ _) | (with_reducible refine Below.drew ?_) | ((with_reducible refine Below.step (by assumption) ?_ ?_); rotate_left; (first | omega | (simp <;> omega)))))
    show Own _ _ _ (#[Value.int .i64 0] : Array Value).toList
    exact Own.at_new (by simp)
  · have h1 : ¬ (2000 : Int) < src.length := by omega
    have HL : Hid (¬ 2000 < src.length) := Lib.hid (by omega)
    go_enter Tryz.func22, Tryz.ntmps22
    go_wp2_with fail
    go_loopw [4, 5] (fun o_ a_ wr => ∃ (a : Nat) (l : List ETok) (A : Option Addr) (c : Nat), a ≤ src.length ∧ a_ = .int .i64 a ∧ o_ = .slice A l.length c ∧ TkTo src a l ∧ Grow wr w.heap.size 74 4 A l.length c (rTok l) ∧ Below w.heap.size w wr) (fun _ a_ _ => src.length - (RowKit.intOf a_).toNat)
    case atStart => exact ⟨0, [], _, _, Nat.zero_le _, rfl, rfl, TkTo.zero _, HG0.out, (by repeat (first | (with_reducible exact Below.refl _ _) | (with_reducible assumption) | ((with_reducible refine Below.alloc ?_ ?_ _); rotate_left; (first | omega | (simp <;> omega))) | ((with_reducible refine Below.setCell ?_ ?_ _); rotate_left; (first | omega | (simp <;> omega))) | (with_reducible refine below_drewN ?_ _) | (with_reducible refine Below.drew ?_) | ((with_reducible refine Below.step (by assumption) ?_ ?_); rotate_left; (first | omega | (simp <;> omega)))))⟩
    case round =>
      obtain ⟨a, l, A, c, hal, rfl, rfl, ht, hg, hb⟩ := hrel
      obtain ⟨wo, rfl⟩ : ∃ wo, wo = wr := ⟨_, rfl⟩
      have hla := ht.1
      have hz := hb.size
      have HT := Lib.hid ht
      have HG := Lib.hid hg
      have HB := Lib.hid hb
      clear ht hg hb HG0
      rcases Nat.lt_or_ge a src.length with hlt | hge
      · obtain ⟨b, hb⟩ : ∃ b, src[a]? = some b := ⟨_, List.getElem?_eq_getElem hlt⟩
        have hat := lx_at hb
        have HBt := Lib.hid hb
        have hlt' : (a : Int) < src.length := by omega
        clear hb
        cases hsp : isSp b with
        | true =>
          have HKO : Hid (∀ wx : World, Calls Tryz.prog 51 #[.int .u8 b.toNat] wx fun e w' => e = .returned (.int .i64 1) ∧ wx = w') := Lib.hid (by have := I_kindOf b; rw [kindK_sp hsp] at this; exact this)
          have HN := Lib.hid (HT.out.space HBt.out hsp)
          clear hsp
          go_wp2_with (first | (go_at_call 51; refine (HKO.out _).mono ?_; rintro e w' ⟨rfl, rfl⟩) | fail)
          go_roundw
          case rel => exact ⟨a + 1, l, _, _, by omega, by go_num, rfl, HN.out, HG.out, HB.out⟩
          case measure => simp [RowKit.intOf]; omega
        | false =>
          have HSP := Lib.hid hsp
          have hk1 : (kindK b == 1) = false := beq_eq_false_iff_ne.2 (kindK_ne hsp)
          obtain ⟨kk, hkk⟩ : ∃ kk, kindK b = kk := ⟨_, rfl⟩
          have HKO : Hid (∀ wx : World, Calls Tryz.prog 51 #[.int .u8 b.toNat] wx fun e w' => e = .returned (.int .i64 kk) ∧ wx = w') := Lib.hid (by have := I_kindOf b; rw [hkk] at this; exact this)
          rw [hkk] at hk1
          have HSC : Hid (∀ wx, Calls Tryz.prog 52 #[str src, .int .i64 a] wx (NumI src a (tokX src a) wx)) := Lib.hid (fun wx => I_tokenAt wx HBt.out HSP.out hs)
          clear hsp hkk
          cases hk : scanTok (src.drop a) with
          | none =>
            have HF := Lib.hid (HT.out.bad HL.out HBt.out HSP.out hk)
            have hx : tokX src a = none := by unfold tokX; rw [hk]; rfl
            rw [hx] at HSC
            have HC : Hid (∀ wx, Calls Tryz.prog 52 #[str src, .int .i64 a] wx fun e w' => (∃ g, e = .returned (.tuple #[tokV (0, [], 0, 0), .iface 64 (.pointer (some ⟨g, 0, none⟩))]) ∧ wx.heap.size ≤ g ∧ Own w' g 67 [.int .i64 a]) ∧ Below wx.heap.size wx w') := Lib.hid HSC.out
            clear hk hx HSC
            go_wp2_with (first | (go_at_call 51; refine (HKO.out _).mono ?_; rintro e w' ⟨rfl, rfl⟩) | fail)
            refine (HC.out _).mono ?_
            rintro e w1 ⟨⟨g, rfl, hg, ho⟩, hb1⟩
            have hz1 := hb1.size
            (try simp at hz1 hg)
            have hg2 := ho.lt
            have HB1 : Hid (Below w.heap.size w w1) := Lib.hid (Below.step hb1 HB.out HB.out.size)
            have HO := Lib.hid ho
            clear hb1 ho
            go_wp2_with fail
            go_ret2
            exact OutTokz.no HF.out (by omega) (by repeat (first | (with_reducible exact HO.out) | ((with_reducible refine Own.far ?_ ?_ _); rotate_left; (first | omega | (simp <;> omega))) | (with_reducible refine Own.alloc ?_ _) | (with_reducible refine Own.drewN ?_ _) | (with_reducible refine Own.drew ?_) | (with_reducible refine Own.step (by assumption) ?_))) (by repeat (first | (with_reducible exact Below.refl _ _) | (with_reducible exact HB1.out) | (with_reducible assumption) | ((with_reducible refine Below.alloc ?_ ?_ _); rotate_left; (first | omega | (simp <;> omega))) | ((with_reducible refine Below.setCell ?_ ?_ _); rotate_left; (first | omega | (simp <;> omega))) | (with_reducible refine below_drewN ?_ _) | (with_reducible refine Below.drew ?_) | ((with_reducible refine Below.step (by assumption) ?_ ?_); rotate_left; (first | omega | (simp <;> omega)))))
          | some q =>
            obtain ⟨k, m, v⟩ := q
            have hm := scanTok_len hk
            rw [List.length_drop] at hm
            have HN := Lib.hid (HT.out.tok HBt.out HSP.out hk)
            obtain ⟨u, hu⟩ : ∃ u, (src.drop a).take m = u := ⟨_, rfl⟩
            have hul : u.length = m := by rw [← hu, List.length_take, List.length_drop]; omega
            obtain ⟨E, hE⟩ : ∃ E, a + m = E := ⟨_, rfl⟩
            have hx : tokX src a = some (k, u, (v : Int), (a : Int)) := by unfold tokX; rw [hk]; simp only [Option.map_some]; rw [hu]
            rw [hx] at HSC
            have HC : Hid (∀ wx, Calls Tryz.prog 52 #[str src, .int .i64 a] wx fun e w' => e = .returned (.tuple #[tokV (k, u, (v : Int), (a : Int)), .nilIface]) ∧ Below wx.heap.size wx w') := Lib.hid HSC.out
            rw [hu, hE] at HN
            have hE1 : E ≤ src.length := by omega
            have hE2 : a < E := by omega
            have hEi : (a : Int) + u.length = E := by omega
            have hEw : IntKind.i64.wrap ((a : Int) + u.length) = E := by rw [hEi]; exact IntWalk.i64_in _ (by omega)
            have HNG : Hid (∀ x, x ∈ gOf A → x < wo.heap.size) := Lib.hid (HG.out.lt)
            clear hk hu hE hm hx HSC hul
            go_wp2_with (first | (go_at_call 51; refine (HKO.out _).mono ?_; rintro e w' ⟨rfl, rfl⟩) | (go_at_call 52; refine (HC.out _).mono ?_; rintro e w1 ⟨rfl, hb1⟩; have hz1 := hb1.size; have HB1 : Hid (Below w.heap.size w w1) := Lib.hid (Below.step hb1 HB.out HB.out.size); have HG1 := Lib.hid (Grow.step hb1 HG.out); clear hb1) | (at_builtin; refine wpList_app (by rfl) _ _ 31 (by rfl) (w.heap.size) 74 (.agg #[.int .i64 0, .string ByteArray.empty, .int .i64 0, .int .i64 0]) 4 40 Tryz.underlying31 T.infoToken rfl (by decide) (xs := rTok l) (by rfl) ?_ (ys := rTok [(k, u, (v : Int), (a : Int))]) (by rfl) ?_ (rTok_one _) ?_ ?_ ?_ ?_; (exact (by repeat (first | (with_reducible exact HG1.out) | (with_reducible refine Grow.alloc ?_ _) | (with_reducible refine Grow.drewN ?_ _) | (with_reducible refine Grow.drew ?_) | ((with_reducible refine Grow.far ?_ ?_ _); rotate_left; (first | omega | (simp <;> omega))) | (with_reducible refine Grow.step (by assumption) ?_)))); (exact (Grow.rs (base := 0) (n := 1) (c := 1) (by repeat (first | (with_reducible refine Grow.drewN ?_ _) | (with_reducible refine Grow.drew ?_) | (refine Grow.lit_at (by simp) (by rfl) (Nat.zero_le _) (by unfold maxLen; omega)))))); (unfold maxLen; omega); (omega); (first | omega | (simp <;> omega)); rintro A' c' w2 gA; have g1 := gA.1; have g2 := gA.2.1; rw [rTok_snoc] at g1; have HG2 := Lib.hid g1; have HB2 : Hid (Below w.heap.size w w2) := Lib.hid (Below.trans (by repeat (first | (with_reducible exact Below.refl _ _) | (with_reducible exact HB1.out) | (with_reducible assumption) | ((with_reducible refine Below.alloc ?_ ?_ _); rotate_left; (first | omega | (simp <;> omega))) | ((with_reducible refine Below.setCell ?_ ?_ _); rotate_left; (first | omega | (simp <;> omega))) | (with_reducible refine below_drewN ?_ _) | (with_reducible refine Below.drew ?_) | ((with_reducible refine Below.step (by assumption) ?_ ?_); rotate_left; (first | omega | (simp <;> omega))))) g2); have hz2 := g2.size; have gf := Appended.far gA (b := w1.heap.size) (by simp; omega) (by intro hx; have := HNG.out _ hx; omega); have c1 : w2.cell? ⟨w1.heap.size, 1, none⟩ = some (str u) := (gf.1 1).trans (by simp); clear gA g1 g2 gf) | fail)
            go_roundw
            case rel => exact ⟨E, _, _, _, hE1, rfl, by rw [List.length_append]; rfl, HN.out, by rw [List.length_append]; exact HG2.out, HB2.out⟩
            case measure => simp [RowKit.intOf]; omega
      · obtain rfl : a = src.length := by omega
        have HF := Lib.hid (HT.out.done HL.out)
        go_wp2_with (first | (at_builtin; refine wpList_app (by rfl) _ _ 31 (by rfl) (w.heap.size) 74 (.agg #[.int .i64 0, .string ByteArray.empty, .int .i64 0, .int .i64 0]) 4 40 Tryz.underlying31 T.infoToken rfl (by decide) (xs := rTok l) (by rfl) ?_ (ys := rTok [(0, [], 0, (src.length : Int))]) (by rfl) ?_ (rTok_one _) ?_ ?_ ?_ ?_; (exact (by repeat (first | (with_reducible exact HG.out) | (with_reducible refine Grow.alloc ?_ _) | (with_reducible refine Grow.drewN ?_ _) | (with_reducible refine Grow.drew ?_) | ((with_reducible refine Grow.far ?_ ?_ _); rotate_left; (first | omega | (simp <;> omega))) | (with_reducible refine Grow.step (by assumption) ?_)))); (exact (Grow.rs (base := 0) (n := 1) (c := 1) (by repeat (first | (with_reducible refine Grow.drewN ?_ _) | (with_reducible refine Grow.drew ?_) | (refine Grow.lit_at (by simp) (by rfl) (Nat.zero_le _) (by unfold maxLen; omega)))))); (unfold maxLen; omega); (omega); (first | omega | (simp <;> omega)); rintro A' c' w2 gA; have g1 := gA.1; have g2 := gA.2.1; rw [rTok_snoc] at g1; have HG2 := Lib.hid g1; have HB2 : Hid (Below w.heap.size w w2) := Lib.hid (Below.trans (by repeat (first | (with_reducible exact Below.refl _ _) | (with_reducible exact HB.out) | (with_reducible assumption) | ((with_reducible refine Below.alloc ?_ ?_ _); rotate_left; (first | omega | (simp <;> omega))) | ((with_reducible refine Below.setCell ?_ ?_ _); rotate_left; (first | omega | (simp <;> omega))) | (with_reducible refine below_drewN ?_ _) | (with_reducible refine Below.drew ?_) | ((with_reducible refine Below.step (by assumption) ?_ ?_); rotate_left; (first | omega | (simp <;> omega))))) g2); clear gA g1 g2) | fail)
        go_ret2
        exact OutTokz.yes HF.out (by rw [List.length_append]; rfl) HG2.out HB2.out
end Go.Proofs.YtnlbojckobgjpaaGreatDoor
