/- The program's lexer: kinds of bytes, spans, values of digits. -/
import Derived.Test.YtnlbojckobgjpaaGreatDoorLexT
import Derived.Laws.IdiomStrings
import Derived.Laws.Externs
set_option linter.unusedVariables false
set_option linter.unusedSimpArgs false
namespace Go.Proofs.YtnlbojckobgjpaaGreatDoor
open Go.RowKit Go.Lib
set_option maxRecDepth 100000
/-- Block g: cells that bear a mark behind their end (bytes that came of a string). -/
def OwnM (w : World) (g : Nat) (t : TypeId) (cs : List Value) : Prop := ∃ m, cs.length ≤ m ∧ w.heap[g]? = some (.cells ⟨cs⟩ t (m, m + 1))
theorem OwnM.lt {w : World} {g : Nat} {t : TypeId} {cs : List Value} (h : OwnM w g t cs) : g < w.heap.size := by
  obtain ⟨m, _, h⟩ := h
  exact (Array.getElem?_eq_some_iff.1 h).1
theorem OwnM.cell {w : World} {g : Nat} {t : TypeId} {cs : List Value} (h : OwnM w g t cs) (i : Nat) : w.cell? ⟨g, i, none⟩ = cs[i]? := by
  obtain ⟨m, _, h⟩ := h
  simp [World.cell?, h]
theorem OwnM.frozen {w : World} {g : Nat} {t : TypeId} {cs : List Value} (h : OwnM w g t cs) {i : Nat} (hi : i < cs.length) : w.frozen? ⟨g, i, none⟩ = false := by
  obtain ⟨m, hm, h⟩ := h
  simp [World.frozen?, h]; omega
theorem OwnM.set_ {w : World} {g : Nat} {t : TypeId} {cs : List Value} (h : OwnM w g t cs) (i : Nat) (u : Value) : OwnM (w.setCell ⟨g, i, none⟩ u) g t (cs.set i u) := by
  obtain ⟨m, hm, h⟩ := h
  refine ⟨m, by simpa using hm, ?_⟩
  simp [World.setCell, Array.getElem?_modify, h]
theorem OwnM.step {w w' : World} {g : Nat} {t : TypeId} {cs : List Value} (hb : Below w.heap.size w w') (h : OwnM w g t cs) : OwnM w' g t cs := by
  have hl := h.lt
  obtain ⟨m, hm, h⟩ := h
  exact ⟨m, hm, (hb.block g hl).trans h⟩
/-- The cells of bytes. -/
abbrev u8m (l : List UInt8) : List Value := l.map fun b => .int .u8 (b.toNat : Int)
theorem bytes_ofM {P : Program} (src dst e : TypeId) (l : List UInt8) (hs : P.underlying src = some .string) (hd : P.underlying dst = some (.slice e)) (he : P.underlying e = some (.int .u8)) (w : World) :
    ∃ (cap : Nat) (w1 : World) (pad : List Value), (convert src dst (.string ⟨l.toArray⟩)).run P w = .ok (.slice (some ⟨w.heap.size, 0, none⟩) l.length cap) w1 ∧ OwnM w1 w.heap.size e (u8m l ++ pad) ∧ Below w.heap.size w w1 ∧ w1.heap.size = w.heap.size + 1 ∧ l.length ≤ cap := by
  refine ⟨_, _, List.replicate (grownCap w l.length 0 e - l.length) (.int .u8 0), run_bytes_of_string w src dst e ⟨l.toArray⟩ hs hd he, ⟨(bytesRow ⟨l.toArray⟩ (grownCap w l.length 0 e)).size, ?_, ?_⟩, ?_, ?_, ?_⟩
  · unfold bytesRow; simp [ByteArray.size]
  · have : (w.drew.alloc (.cells (bytesRow ⟨l.toArray⟩ (grownCap w l.length 0 e)) e ((bytesRow ⟨l.toArray⟩ (grownCap w l.length 0 e)).size, (bytesRow ⟨l.toArray⟩ (grownCap w l.length 0 e)).size + 1))).heap[w.heap.size]? = some (.cells (bytesRow ⟨l.toArray⟩ (grownCap w l.length 0 e)) e ((bytesRow ⟨l.toArray⟩ (grownCap w l.length 0 e)).size, (bytesRow ⟨l.toArray⟩ (grownCap w l.length 0 e)).size + 1)) := heap_alloc_new w.drew _
    refine this.trans ?_
    have e1 : bytesRow ⟨l.toArray⟩ (grownCap w l.length 0 e) = ⟨u8m l ++ List.replicate (grownCap w l.length 0 e - l.length) (.int .u8 0)⟩ := by
      apply Array.ext'
      unfold bytesRow
      simp [ByteArray.size, u8m]
    rw [e1]
  · exact ((Below.refl _ _).drew).alloc (Nat.le_refl _) _
  · simp
  · show l.length ≤ grownCap w l.length 0 e
    unfold grownCap Question.cut
    simp

/-- The kind of a byte, as the program counts. -/
def kindK (b : UInt8) : Int := if isSp b then 1 else if isDg b then 2 else if isLt b then 3 else if isSy b then 4 else 0
theorem isSp_nat (b : UInt8) : isSp b = true ↔ b.toNat = 32 ∨ b.toNat = 10 := by
  simp only [isSp, Bool.or_eq_true, decide_eq_true_eq]
  constructor
  · rintro (rfl | rfl)
    · exact .inl rfl
    · exact .inr rfl
  · rintro (h | h)
    · exact .inl (UInt8.toNat_inj.1 h)
    · exact .inr (UInt8.toNat_inj.1 h)
theorem firstIdx_sym (b : UInt8) : decide ((0 : Int) ≤ firstIdx ⟨symB.toArray⟩ b) = isSy b := by
  unfold firstIdx
  cases hf : (List.range (ByteArray.size ⟨symB.toArray⟩)).find? fun i => (({ data := symB.toArray } : ByteArray)[i]! == b) with
  | none =>
    have hn : isSy b = false := isSy_no (fun j hj e => by
      have := (List.find?_eq_none.1 hf) j (List.mem_range.2 hj)
      apply this
      have h2 : ({ data := symB.toArray } : ByteArray)[j]! = b := by
        have hj' : j < ({ data := symB.toArray } : ByteArray).size := hj
        rw [getElem!_pos ({ data := symB.toArray } : ByteArray) j hj']
        exact (List.getElem?_eq_some_iff.1 e).2
      rw [h2]; simp)
    rw [hn]
    show decide ((0 : Int) ≤ -1) = false
    decide
  | some i =>
    have h1 := List.find?_some hf
    have h2 := List.mem_range.1 (List.mem_of_find?_eq_some hf)
    have hb : isSy b = true := isSy_yes (k := i) (by
      rw [getElem!_pos ({ data := symB.toArray } : ByteArray) i h2] at h1
      have e : ({ data := symB.toArray } : ByteArray)[i] = b := by simpa using h1
      have h3 : i < symB.length := h2
      rw [List.getElem?_eq_getElem h3]
      exact congrArg some e)
    rw [hb]
    show decide ((0 : Int) ≤ (i : Int)) = true
    simp
set_option maxHeartbeats 1000000 in
theorem I_sym (b : UInt8) (w : World) : Calls Tryz.prog 78 #[.string ⟨#[43, 45, 42, 47, 40, 41, 44, 61, 59]⟩, .int .u8 b.toNat] w fun e w' => ∃ r : Int, e = .returned (.int .i64 r) ∧ decide (0 ≤ r) = isSy b ∧ w = w' := by
  have h68 := @run_callFunc_extern Tryz.prog 113 _ Extern.BytealgIndexByte.indexByte Tryz.func113 (by kernel_rfl) (by kernel_rfl) (by kernel_rfl) (by kernel_rfl)
  have hx := fun (w : World) => run_indexByte_string (P := Tryz.prog) ⟨#[43, 45, 42, 47, 40, 41, 44, 61, 59]⟩ (b.toNat : Int) w
  have HF := Lib.hid (firstIdx_sym b)
  have e : (b.toNat : Int).toNat.toUInt8 = b := by simp
  rw [e] at hx
  obtain ⟨r, hr⟩ : ∃ r, firstIdx ⟨#[43, 45, 42, 47, 40, 41, 44, 61, 59]⟩ b = r := ⟨_, rfl⟩
  have HR := Lib.hid hr
  rw [hr] at hx
  clear hr e
  go_enter Tryz.func78, Tryz.ntmps78
  go_wp2
  go_ret
  exact ⟨r, rfl, by rw [← HR.out]; exact HF.out, rfl⟩
set_option maxHeartbeats 1000000 in
theorem I_kindOf (b : UInt8) (w : World) : Calls Tryz.prog 51 #[.int .u8 b.toNat] w fun e w' => e = .returned (.int .i64 (kindK b)) ∧ w = w' := by
  have HS := Lib.hid (I_sym b)
  by_cases h32 : b.toNat = 32
  · have HK : Hid (kindK b = 1) := Lib.hid (by unfold kindK; rw [if_pos ((isSp_nat b).2 (.inl h32))])
    have e1 : ((b.toNat : Int) == 32) = true := by rw [h32]; rfl
    clear h32
    generalize (b.toNat : Int) = x at *
    go_enter Tryz.func51, Tryz.ntmps51
    go_wp2_with fail
    go_ret
    rw [HK.out]; exact ⟨rfl, rfl⟩
  · have e1 : ((b.toNat : Int) == 32) = false := by rw [beq_eq_false_iff_ne]; omega
    by_cases h10 : b.toNat = 10
    · have HK : Hid (kindK b = 1) := Lib.hid (by unfold kindK; rw [if_pos ((isSp_nat b).2 (.inr h10))])
      have e2 : ((b.toNat : Int) == 10) = true := by rw [h10]; rfl
      clear h10 h32
      generalize (b.toNat : Int) = x at *
      go_enter Tryz.func51, Tryz.ntmps51
      go_wp2_with fail
      go_ret
      rw [HK.out]; exact ⟨rfl, rfl⟩
    · have e2 : ((b.toNat : Int) == 10) = false := by rw [beq_eq_false_iff_ne]; omega
      have hsp : isSp b = false := by
        cases h : isSp b with
        | false => rfl
        | true => have := (isSp_nat b).1 h; omega
      by_cases hd : 48 ≤ b.toNat ∧ b.toNat ≤ 57
      · have HK : Hid (kindK b = 2) := Lib.hid (by unfold kindK; rw [hsp, (isDg_nat b).2 hd]; rfl)
        have d1 : (48 : Int) ≤ b.toNat := by omega
        have d2 : (b.toNat : Int) ≤ 57 := by omega
        clear h10 h32 hsp hd
        generalize (b.toNat : Int) = x at *
        go_enter Tryz.func51, Tryz.ntmps51
        go_wp2_with fail
        go_ret
        rw [HK.out]; exact ⟨rfl, rfl⟩
      · have hdg := isDg_not hd
        by_cases hl : 97 ≤ b.toNat ∧ b.toNat ≤ 122
        · have HK : Hid (kindK b = 3) := Lib.hid (by unfold kindK; rw [hsp, hdg, (isLt_nat b).2 hl]; rfl)
          have l1 : (97 : Int) ≤ b.toNat := by omega
          have l2 : (b.toNat : Int) ≤ 122 := by omega
          have l3 : (48 : Int) ≤ b.toNat := by omega
          have l4 : ¬ (b.toNat : Int) ≤ 57 := by omega
          clear h10 h32 hsp hd hdg hl
          generalize (b.toNat : Int) = x at *
          go_enter Tryz.func51, Tryz.ntmps51
          go_wp2_with fail
          go_ret
          rw [HK.out]; exact ⟨rfl, rfl⟩
        · have hlt := isLt_not hl
          have HK : Hid (kindK b = if isSy b then 4 else 0) := Lib.hid (by unfold kindK; rw [hsp, hdg, hlt]; rfl)
          have HD : Hid (¬ (48 ≤ (b.toNat : Int) ∧ (b.toNat : Int) ≤ 57)) := Lib.hid (by omega)
          have HL : Hid (¬ (97 ≤ (b.toNat : Int) ∧ (b.toNat : Int) ≤ 122)) := Lib.hid (by omega)
          clear h10 h32 hsp hd hdg hl hlt
          generalize (b.toNat : Int) = x at *
          cases hsy : isSy b with
          | true =>
            rw [hsy] at HS HK
            rcases (show x < 48 ∨ (57 < x ∧ x < 97) ∨ 122 < x by have := HD.out; have := HL.out; omega) with hx | ⟨hx, hx2⟩ | hx
            · have k1 : ¬ 48 ≤ x := by omega
              have k2 : ¬ 97 ≤ x := by omega
              clear hx
              go_enter Tryz.func51, Tryz.ntmps51
              go_wp2_with (first | (go_at_call 78; refine (HS.out _).mono ?_; rintro e w' ⟨r, rfl, hr, rfl⟩; have hr' : 0 ≤ r := by simpa using hr) | fail)
              go_ret
              rw [HK.out]; exact ⟨rfl, rfl⟩
            · have k1 : 48 ≤ x := by omega
              have k2 : ¬ x ≤ 57 := by omega
              have k3 : ¬ 97 ≤ x := by omega
              clear hx hx2
              go_enter Tryz.func51, Tryz.ntmps51
              go_wp2_with (first | (go_at_call 78; refine (HS.out _).mono ?_; rintro e w' ⟨r, rfl, hr, rfl⟩; have hr' : 0 ≤ r := by simpa using hr) | fail)
              go_ret
              rw [HK.out]; exact ⟨rfl, rfl⟩
            · have k1 : 48 ≤ x := by omega
              have k2 : ¬ x ≤ 57 := by omega
              have k3 : 97 ≤ x := by omega
              have k4 : ¬ x ≤ 122 := by omega
              clear hx
              go_enter Tryz.func51, Tryz.ntmps51
              go_wp2_with (first | (go_at_call 78; refine (HS.out _).mono ?_; rintro e w' ⟨r, rfl, hr, rfl⟩; have hr' : 0 ≤ r := by simpa using hr) | fail)
              go_ret
              rw [HK.out]; exact ⟨rfl, rfl⟩
          | false =>
            rw [hsy] at HS HK
            rcases (show x < 48 ∨ (57 < x ∧ x < 97) ∨ 122 < x by have := HD.out; have := HL.out; omega) with hx | ⟨hx, hx2⟩ | hx
            · have k1 : ¬ 48 ≤ x := by omega
              have k2 : ¬ 97 ≤ x := by omega
              clear hx
              go_enter Tryz.func51, Tryz.ntmps51
              go_wp2_with (first | (go_at_call 78; refine (HS.out _).mono ?_; rintro e w' ⟨r, rfl, hr, rfl⟩; have hr' : ¬ 0 ≤ r := by simpa using hr) | fail)
              go_ret
              rw [HK.out]; exact ⟨rfl, rfl⟩
            · have k1 : 48 ≤ x := by omega
              have k2 : ¬ x ≤ 57 := by omega
              have k3 : ¬ 97 ≤ x := by omega
              clear hx hx2
              go_enter Tryz.func51, Tryz.ntmps51
              go_wp2_with (first | (go_at_call 78; refine (HS.out _).mono ?_; rintro e w' ⟨r, rfl, hr, rfl⟩; have hr' : ¬ 0 ≤ r := by simpa using hr) | fail)
              go_ret
              rw [HK.out]; exact ⟨rfl, rfl⟩
            · have k1 : 48 ≤ x := by omega
              have k2 : ¬ x ≤ 57 := by omega
              have k3 : 97 ≤ x := by omega
              have k4 : ¬ x ≤ 122 := by omega
              clear hx
              go_enter Tryz.func51, Tryz.ntmps51
              go_wp2_with (first | (go_at_call 78; refine (HS.out _).mono ?_; rintro e w' ⟨r, rfl, hr, rfl⟩; have hr' : ¬ 0 ≤ r := by simpa using hr) | fail)
              go_ret
              rw [HK.out]; exact ⟨rfl, rfl⟩
set_option maxHeartbeats 1000000 in
theorem I_power (k : Nat) (hk : k ≤ 6) (w : World) : Calls Tryz.prog 66 #[.int .i64 k] w fun e w' => e = .returned (.int .i64 ((10 ^ k : Nat) : Int)) ∧ w = w' := by
  go_enter Tryz.func66, Tryz.ntmps66
  go_wp2_with fail
  go_loop [3, 5] (fun p i => ∃ j : Nat, j ≤ k ∧ i = .int .i64 j ∧ p = .int .i64 ((10 ^ j : Nat) : Int)) (fun _ i => k - (RowKit.intOf i).toNat)
  case atStart => exact ⟨0, Nat.zero_le _, rfl, rfl⟩
  case round =>
    obtain ⟨j, hj, rfl, rfl⟩ := hrel
    have hp : (10 ^ j : Nat) ≤ 1000000 := Nat.pow_le_pow_right (n := 10) (by omega) (show j ≤ 6 by omega)
    have HP : Hid ((10 ^ (j + 1) : Nat) = 10 ^ j * 10) := Lib.hid (Nat.pow_succ _ _)
    by_cases hlt : j < k
    · obtain ⟨U, hU⟩ : ∃ U, 10 ^ j = U := ⟨_, rfl⟩
      have HU := Lib.hid hU
      rw [hU] at hp ⊢
      clear hU
      go_wp2_with fail
      go_round
      case rel => exact ⟨j + 1, by omega, by go_num, by rw [HP.out, HU.out]; go_num⟩
      case measure => simp [RowKit.intOf]; omega
    · obtain rfl : j = k := by omega
      go_wp2_with fail
      go_ret
      exact ⟨rfl, rfl⟩
set_option maxHeartbeats 2000000 in
theorem I_valueOf (l : List UInt8) (hd : DG l l.length) (hl : l.length ≤ 4) (w : World) : Calls Tryz.prog 104 #[str l] w fun e w' => e = .returned (.int .i64 (valD l)) ∧ Below w.heap.size w w' := by
  obtain ⟨cap, w1, pad, hcv, ho, hb1, hz1, hcap⟩ := bytes_ofM (P := Tryz.prog) 9 22 5 l Tryz.underlying9 Tryz.underlying22 Tryz.underlying5 w
  have HO := Lib.hid ho
  have HB1 := Lib.hid hb1
  have HD := Lib.hid hd
  clear ho hb1 hd
  go_enter Tryz.func104, Tryz.ntmps104
  go_wp2_with fail
  clear hcv
  go_loop [3, 5, 9] (fun v _ i => ∃ k : Nat, k ≤ l.length ∧ i = .int .i64 k ∧ v = .int .i64 (valD (l.take k) : Int)) (fun _ _ i => l.length - (RowKit.intOf i).toNat)
  case atStart => exact ⟨0, Nat.zero_le _, rfl, rfl⟩
  case round =>
    obtain ⟨k, hk, rfl, rfl⟩ := hrel
    by_cases hlt : k < l.length
    · obtain ⟨b, hb, hdb⟩ := HD.out k hlt
      have hdig := (isDg_nat b).1 hdb
      have hdk : DG l k := fun j hj => HD.out j (by omega)
      have hv : valD (l.take k) < 10000 := Nat.lt_of_lt_of_le hdk.val (Nat.le_trans (Nat.pow_le_pow_right (by omega) (show k ≤ 4 by omega)) (Nat.le_refl _))
      have HW := Lib.hid (valD_succ hb)
      have c1 : w1.cell? ⟨w.heap.size, k, none⟩ = some (.int .u8 (b.toNat : Int)) := by
        rw [HO.out.cell, List.getElem?_append_left (by simpa using hlt), List.getElem?_map, hb]; rfl
      obtain ⟨d, hd9, hd0, hdn⟩ := dig_of hdig
      have hd2 : IntKind.i64.wrap (d : Int) = d := IntWalk.i64_in _ (by omega)
      obtain ⟨V, hV⟩ : ∃ V, valD (l.take k) = V := ⟨_, rfl⟩
      have HV := Lib.hid hV
      rw [hV] at hv ⊢
      have hlt' : (k : Int) < l.length := by omega
      clear hV hdk hb hdb hdig
      go_wp2_with fail
      go_round
      case rel => exact ⟨k + 1, by omega, by go_num, by rw [HW.out, HV.out, hdn]; go_num⟩
      case measure => simp [RowKit.intOf]; omega
    · obtain rfl : k = l.length := by omega
      go_wp2_with fail
      go_ret
      exact ⟨rfl, HB1.out⟩
end Go.Proofs.YtnlbojckobgjpaaGreatDoor
