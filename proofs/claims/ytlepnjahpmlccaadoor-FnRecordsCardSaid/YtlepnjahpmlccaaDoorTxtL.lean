/- FormatRecord, of the reference and of the program. -/
import Derived.Test.YtlepnjahpmlccaaDoorTxtK
import Derived.Test.YtlepnjahpmlccaaDoorDivs
import Derived.Test.YtlepnjahpmlccaaDoorRecs
import Derived.Deep.RegionHeld3
import Derived.Deep.DeepCutAuto
namespace Go.Proofs.YtlepnjahpmlccaaDoor
open Go.RowKit Go.Lib
set_option linter.unusedVariables false
set_option maxRecDepth 100000

def validR (i : Int) (l : List Int) : Bool := inB i 0 1000000000 && (inB l.length 1 144 && allIn l 0 256)
/-- The line of a record. -/
def fmtR (i : Int) (l : List Int) : List UInt8 := if validR i l then [116, 105, 108, 101, 32] ++ fmtI i ++ [32] ++ fmtI (hashF (i :: l)) ++ [32] ++ fmtL l ++ [10] else []
theorem validR_true {i : Int} {l : List Int} (h : validR i l = true) : inB i 0 1000000000 = true ∧ inB l.length 1 144 = true ∧ allIn l 0 256 = true := by
  unfold validR at h; simpa [Bool.and_eq_true] using h
theorem fmtR_no {i : Int} {l : List Int} (h : validR i l = false) : fmtR i l = [] := by unfold fmtR; rw [h]; rfl
theorem fmtR_yes {i : Int} {l : List Int} (h : validR i l = true) : fmtR i l = [116, 105, 108, 101, 32] ++ fmtI i ++ [32] ++ fmtI (hashF (i :: l)) ++ [32] ++ fmtL l ++ [10] := by unfold fmtR; rw [if_pos h]
set_option maxHeartbeats 8000000 in
theorem S_FormatRecord {i : Int} {A : Option Addr} {c : Nat} {l : List Int} (w : World) (h : RS w 1 A l.length c (ints l)) :
    Calls Tryd.prog 15 #[(vLogged i (.slice A l.length c))] w fun e w' => e = .returned (str (fmtR i l)) ∧ Below w.heap.size w w' := by
  have H0 := Lib.hid h
  clear h
  cases h1 : inB i 0 1000000000 with
  | false =>
    have HF : Hid (fmtR i l = []) := Lib.hid (fmtR_no (by unfold validR; rw [h1]; rfl))
    go_enter Tryd.func15, Tryd.ntmps15
    go_wp2_with (first | (go_at_call 34; refine (S_in _ _ _ _).mono ?_; rw [h1]; rintro e w' ⟨rfl, rfl⟩) | fail)
    go_ret
    exact ⟨by rw [HF.out]; rfl, (by repeat (first | (with_reducible exact Below.refl _ _) | (with_reducible assumption) | ((with_reducible refine Below.alloc ?_ ?_ _); rotate_left; (first | omega | (simp <;> omega))) | ((with_reducible refine Below.setCell ?_ ?_ _); rotate_left; (first | omega | (simp <;> omega))) | (with_reducible refine below_drewN ?_ _) | (with_reducible refine Below.drew ?_) | ((with_reducible refine Below.step (by assumption) ?_ ?_); rotate_left; (first | omega | (simp <;> omega)))))⟩
  | true =>
    cases h2 : inB l.length 1 144 with
    | false =>
      have HF : Hid (fmtR i l = []) := Lib.hid (fmtR_no (by unfold validR; rw [h1, h2]; rfl))
      go_enter Tryd.func15, Tryd.ntmps15
      go_wp2_with (first | (go_at_call 34; refine (S_in _ _ _ _).mono ?_; (first | rw [h1] | rw [h2]); rintro e w' ⟨rfl, rfl⟩) | fail)
      go_ret
      exact ⟨by rw [HF.out]; rfl, (by repeat (first | (with_reducible exact Below.refl _ _) | (with_reducible assumption) | ((with_reducible refine Below.alloc ?_ ?_ _); rotate_left; (first | omega | (simp <;> omega))) | ((with_reducible refine Below.setCell ?_ ?_ _); rotate_left; (first | omega | (simp <;> omega))) | (with_reducible refine below_drewN ?_ _) | (with_reducible refine Below.drew ?_) | ((with_reducible refine Below.step (by assumption) ?_ ?_); rotate_left; (first | omega | (simp <;> omega)))))⟩
    | true =>
      obtain ⟨hl1, hl2⟩ := inB_true h2
      have HB0 : Hid (Below w.heap.size w (w.alloc (.cells #[.int .i64 i, .slice A l.length c] 37))) := Lib.hid (by repeat (first | (with_reducible exact Below.refl _ _) | (with_reducible assumption) | ((with_reducible refine Below.alloc ?_ ?_ _); rotate_left; (first | omega | (simp <;> omega))) | ((with_reducible refine Below.setCell ?_ ?_ _); rotate_left; (first | omega | (simp <;> omega))) | (with_reducible refine below_drewN ?_ _) | (with_reducible refine Below.drew ?_) | ((with_reducible refine Below.step (by assumption) ?_ ?_); rotate_left; (first | omega | (simp <;> omega)))))
      go_enter Tryd.func15, Tryd.ntmps15
      go_wp2_with (first | (go_at_call 34; refine (S_in _ _ _ _).mono ?_; (first | rw [h1] | rw [h2]); rintro e w' ⟨rfl, rfl⟩) | fail)
      go_loop [4, 20] (fun _ i => ∃ k : Nat, k ≤ l.length ∧ i = .int .i64 k ∧ allIn (l.take k) 0 256 = true) (fun _ i => l.length - (RowKit.intOf i).toNat)
      case atStart => exact ⟨0, Nat.zero_le _, rfl, rfl⟩
      case round =>
        obtain ⟨k, hk, rfl, ht⟩ := hrel
        have HT := Lib.hid ht
        clear ht
        by_cases hlt : k < l.length
        · obtain ⟨b, o, rfl, hbh, hcell⟩ := H0.out.open_.2.2 (by omega)
          have c1 : w.cell? ⟨b, o + k, none⟩ = some (.int .i64 l[k]) := by rw [hcell k (by omega), ints_at hlt]
          have nb : ¬ b = w.heap.size := by omega
          have i2 : (k : Int) < l.length := by omega
          clear hcell
          cases hin : inB l[k] 0 256 with
          | true =>
            have HK := Lib.hid (allIn_take HT.out hlt hin)
            generalize hx : l[k] = x at *
            go_wp2_with (first | (go_at_call 34; refine (S_in _ _ _ _).mono ?_; rw [hin]; rintro e w' ⟨rfl, rfl⟩) | fail)
            go_round
            case rel => exact ⟨k + 1, by omega, by go_num, HK.out⟩
            case measure => simp [RowKit.intOf]; omega
          | false =>
            have HF : Hid (fmtR i l = []) := Lib.hid (fmtR_no (by unfold validR; rw [h1, h2, allIn_false hlt hin]; rfl))
            generalize hx : l[k] = x at *
            go_wp2_with (first | (go_at_call 34; refine (S_in _ _ _ _).mono ?_; rw [hin]; rintro e w' ⟨rfl, rfl⟩) | fail)
            go_ret
            exact ⟨by rw [HF.out]; rfl, HB0.out⟩
        · obtain rfl : k = l.length := by omega
          have HA : Hid (allIn l 0 256 = true) := Lib.hid (by have := HT.out; rwa [List.take_length] at this)
          have HF : Hid (fmtR i l = [116, 105, 108, 101, 32] ++ fmtI i ++ [32] ++ fmtI (hashF (i :: l)) ++ [32] ++ fmtL l ++ [10]) := Lib.hid (fmtR_yes (by unfold validR; rw [h1, h2, HA.out]; rfl))
          have HGL : Hid (Grow ((w.alloc (.cells #[.int .i64 i, .slice A l.length c] 37)).alloc (.cells #[.int .i64 i] 3)) (w.heap.size + 1) 3 1 (some ⟨w.heap.size + 1, 0, none⟩) 1 1 (ints [i])) := Lib.hid (Grow.lit_at (by simp) rfl (by simp) (by unfold maxLen; omega))
          go_wp2_with (at_builtin; refine wpList_app (by rfl) _ _ 32 (by rfl) (w.heap.size + 1) 3 (.int .i64 0) 1 8 Tryd.underlying32 T.infoInt rfl (by decide) (xs := ints [i]) (by rfl) ?_ (ys := ints l) (by rfl) ?_ (ints_one _) ?_ ?_ ?_ ?_; (exact (by repeat (first | (with_reducible exact HGL.out) | (with_reducible refine Grow.alloc ?_ _) | (with_reducible refine Grow.drewN ?_ _) | (with_reducible refine Grow.drew ?_) | ((with_reducible refine Grow.far ?_ ?_ _); rotate_left; (first | omega | (simp <;> omega))) | (with_reducible refine Grow.step (by assumption) ?_)))); (exact (RS.alloc (RS.alloc H0.out _) _)); (unfold maxLen; omega); (omega); (first | omega | (simp <;> omega)); rintro A' c' w2 gA; have gR := Lib.hid gA.1.rs; have gB := gA.2.1; have gF := (Appended.far gA (b := w.heap.size) (by simp; omega) (by simp [gOf])); have gZ := gA.2.2.2.1; have HB1 : Hid (Below w.heap.size w w2) := Lib.hid (Below.trans (by first | exact (by repeat (first | (with_reducible exact Below.refl _ _) | (with_reducible exact HB0.out) | (with_reducible assumption) | ((with_reducible refine Below.alloc ?_ ?_ _); rotate_left; (first | omega | (simp <;> omega))) | ((with_reducible refine Below.setCell ?_ ?_ _); rotate_left; (first | omega | (simp <;> omega))) | (with_reducible refine below_drewN ?_ _) | (with_reducible refine Below.drew ?_) | ((with_reducible refine Below.step (by assumption) ?_ ?_); rotate_left; (first | omega | (simp <;> omega)))))) (gB.mono (by simp))); clear gA gB)
          have hR : Hid (RS w2 1 A' (1 + l.length) c' (ints (i :: l))) := gR
          clear gR
          refine (S_HashInts _ (l := i :: l) (by simp; omega) hR.out).mono ?_
          rintro e w' ⟨rfl, rfl⟩
          have B1 : Below w.heap.size w w2 := HB1.out
          have z2 := B1.size
          obtain ⟨f1, f2⟩ := gF
          (try simp at gZ)
          have q0 : w2.cell? ⟨w.heap.size, 0, none⟩ = some (.int .i64 i) := (f1 0).trans (by simp)
          have q1 : w2.cell? ⟨w.heap.size, 1, none⟩ = some (.slice A l.length c) := (f1 1).trans (by simp)
          have ez : ¬ w.heap.size = w2.heap.size := by omega
          obtain ⟨sm, hsm⟩ : ∃ sm, hashF (i :: l) = sm := ⟨_, rfl⟩
          obtain ⟨x, hx⟩ : ∃ x, fmtI i = x := ⟨_, rfl⟩
          obtain ⟨y, hy⟩ : ∃ y, fmtI sm = y := ⟨_, rfl⟩
          obtain ⟨z, hz⟩ : ∃ z, fmtL l = z := ⟨_, rfl⟩
          have hxl : x.length ≤ 11 := hx ▸ fmtI_len i
          have hyl : y.length ≤ 11 := hy ▸ fmtI_len sm
          have hzl : z.length ≤ 1728 := by have := fmtL_len l; rw [hz] at this; omega
          have b1 : ¬ 9223372036854775807 < 5 + x.length := by omega
          have b2 : ¬ 9223372036854775807 < 5 + x.length + 1 := by omega
          have b3 : ¬ 9223372036854775807 < 5 + x.length + 1 + y.length := by omega
          have b4 : ¬ 9223372036854775807 < 5 + x.length + 1 + y.length + 1 := by omega
          have b5 : ¬ 9223372036854775807 < 5 + x.length + 1 + y.length + 1 + z.length := by omega
          have b6 : ¬ 9223372036854775807 < 5 + x.length + 1 + y.length + 1 + z.length + 1 := by omega
          have HX : Hid (∀ wx, Calls Tryd.prog 28 #[.int .i64 i] wx fun e w' => e = .returned (str x) ∧ Below wx.heap.size wx w') := Lib.hid (fun wx => by have := S_FormatInt i wx; rwa [hx] at this)
          have HY : Hid (∀ wx, Calls Tryd.prog 28 #[.int .i64 sm] wx fun e w' => e = .returned (str y) ∧ Below wx.heap.size wx w') := Lib.hid (fun wx => by have := S_FormatInt sm wx; rwa [hy] at this)
          have HZ : Hid (∀ wx, Below w.heap.size w wx → Calls Tryd.prog 36 #[.slice A l.length c] wx fun e w' => e = .returned (str z) ∧ Below wx.heap.size wx w') := Lib.hid (fun wx hb => by have := S_FormatInts wx (RS.step hb H0.out) HA.out (by omega) (by omega); rwa [hz] at this)
          have HFF : Hid (fmtR i l = [116, 105, 108, 101, 32] ++ x ++ [32] ++ y ++ [32] ++ z ++ [10]) := Lib.hid (by rw [HF.out, hsm, hx, hy, hz])
          rw [hsm]
          clear hx hy hz hsm hR hxl hyl hzl f1 f2 HF
          go_upto_region 10 with fail
          go_region_held3 (fun w' => w'.cell? ⟨w.heap.size, 0, none⟩ = some (.int .i64 i) ∧ w'.cell? ⟨w.heap.size, 1, none⟩ = some (.slice A l.length c))
            (first | go_keep | ((try dsimp only); refine ⟨?_, ?_⟩ <;> (go_simp; done)))
            (first | (go_at_call 28; (with_reducible refine (HX.out _).mono ?_); rintro e wB ⟨rfl, hbB⟩; have hzB := hbB.size; (try simp at hzB); (refine with_box hbB (w.heap.size) ?_ ?_; (first | omega | (simp <;> omega)); intro n0 nf0 nz0)) | (go_at_call 28; (with_reducible refine (HY.out _).mono ?_); rintro e wC ⟨rfl, hbC⟩; have hzC := hbC.size; (try simp at hzC); (refine with_box hbC (w.heap.size) ?_ ?_; (first | omega | (simp <;> omega)); intro n0 nf0 nz0)) | (go_at_call 36; (with_reducible refine (HZ.out _ (by repeat (first | (with_reducible exact Below.refl _ _) | (with_reducible assumption) | ((with_reducible refine Below.alloc ?_ ?_ _); rotate_left; (first | omega | (simp <;> omega))) | ((with_reducible refine Below.setCell ?_ ?_ _); rotate_left; (first | omega | (simp <;> omega))) | (with_reducible refine below_drewN ?_ _) | (with_reducible refine Below.drew ?_) | ((with_reducible refine Below.step (by assumption) ?_ ?_); rotate_left; (first | omega | (simp <;> omega)))))).mono ?_); rintro e wD ⟨rfl, hbD⟩; have hzD := hbD.size; (try simp at hzD); (refine with_box hbD (w.heap.size) ?_ ?_; (first | omega | (simp <;> omega)); intro n0 nf0 nz0)) | fail)
          all_goals
            go_wp2_with fail
            go_ret
            refine ⟨?_, (by repeat (first | (with_reducible exact Below.refl _ _) | (with_reducible assumption) | ((with_reducible refine Below.alloc ?_ ?_ _); rotate_left; (first | omega | (simp <;> omega))) | ((with_reducible refine Below.setCell ?_ ?_ _); rotate_left; (first | omega | (simp <;> omega))) | (with_reducible refine below_drewN ?_ _) | (with_reducible refine Below.drew ?_) | ((with_reducible refine Below.step (by assumption) ?_ ?_); rotate_left; (first | omega | (simp <;> omega)))))⟩
            rw [HFF.out]
            show Ending.returned (Value.string (({ data := [116, 105, 108, 101, 32].toArray } : ByteArray) ++ { data := x.toArray } ++ { data := [32].toArray } ++ { data := y.toArray } ++ { data := [32].toArray } ++ { data := z.toArray } ++ { data := [10].toArray })) = _
            rw [str_cat, str_cat, str_cat, str_cat, str_cat, str_cat]
set_option maxHeartbeats 8000000 in
theorem I_checksum {i : Int} {A : Option Addr} {c : Nat} {l : List Int} (w : World) (h : RS w 1 A l.length c (ints l)) (hl2 : l.length ≤ 144) :
    Calls Tryd.prog 41 #[(vLogged i (.slice A l.length c))] w fun e w' => e = .returned (.int .i64 (hashF (i :: l))) ∧ Below w.heap.size w w' := by
  have H0 := Lib.hid h
  clear h
  have HB0 : Hid (Below w.heap.size w (w.alloc (.cells #[.int .i64 i, .slice A l.length c] 37))) := Lib.hid (by repeat (first | (with_reducible exact Below.refl _ _) | (with_reducible assumption) | ((with_reducible refine Below.alloc ?_ ?_ _); rotate_left; (first | omega | (simp <;> omega))) | ((with_reducible refine Below.setCell ?_ ?_ _); rotate_left; (first | omega | (simp <;> omega))) | (with_reducible refine below_drewN ?_ _) | (with_reducible refine Below.drew ?_) | ((with_reducible refine Below.step (by assumption) ?_ ?_); rotate_left; (first | omega | (simp <;> omega)))))
  have HGL : Hid (Grow ((w.alloc (.cells #[.int .i64 i, .slice A l.length c] 37)).alloc (.cells #[.int .i64 i] 3)) (w.heap.size + 1) 3 1 (some ⟨w.heap.size + 1, 0, none⟩) 1 1 (ints [i])) := Lib.hid (Grow.lit_at (by simp) rfl (by simp) (by unfold maxLen; omega))
  go_enter Tryd.func41, Tryd.ntmps41
  go_wp2_with (at_builtin; refine wpList_app (by rfl) _ _ 32 (by rfl) (w.heap.size + 1) 3 (.int .i64 0) 1 8 Tryd.underlying32 T.infoInt rfl (by decide) (xs := ints [i]) (by rfl) ?_ (ys := ints l) (by rfl) ?_ (ints_one _) ?_ ?_ ?_ ?_; (exact (by repeat (first | (with_reducible exact HGL.out) | (with_reducible refine Grow.alloc ?_ _) | (with_reducible refine Grow.drewN ?_ _) | (with_reducible refine Grow.drew ?_) | ((with_reducible refine Grow.far ?_ ?_ _); rotate_left; (first | omega | (simp <;> omega))) | (with_reducible refine Grow.step (by assumption) ?_)))); (exact (RS.alloc (RS.alloc H0.out _) _)); (unfold maxLen; omega); (omega); (first | omega | (simp <;> omega)); rintro A' c' w2 gA; have gR := Lib.hid gA.1.rs; have gB := gA.2.1; have HB1 : Hid (Below w.heap.size w w2) := Lib.hid (Below.trans (by first | exact (by repeat (first | (with_reducible exact Below.refl _ _) | (with_reducible exact HB0.out) | (with_reducible assumption) | ((with_reducible refine Below.alloc ?_ ?_ _); rotate_left; (first | omega | (simp <;> omega))) | ((with_reducible refine Below.setCell ?_ ?_ _); rotate_left; (first | omega | (simp <;> omega))) | (with_reducible refine below_drewN ?_ _) | (with_reducible refine Below.drew ?_) | ((with_reducible refine Below.step (by assumption) ?_ ?_); rotate_left; (first | omega | (simp <;> omega)))))) (gB.mono (by simp))); clear gA gB)
  have hR : Hid (RS w2 1 A' (1 + l.length) c' (ints (i :: l))) := gR
  clear gR
  refine (I_HashInts _ (l := i :: l) (by simp; omega) hR.out).mono ?_
  rintro e w' ⟨rfl, rfl⟩
  have B1 : Below w.heap.size w w2 := HB1.out
  go_wp2_with fail
  go_ret
  exact ⟨rfl, (by repeat (first | (with_reducible exact Below.refl _ _) | (with_reducible assumption) | ((with_reducible refine Below.alloc ?_ ?_ _); rotate_left; (first | omega | (simp <;> omega))) | ((with_reducible refine Below.setCell ?_ ?_ _); rotate_left; (first | omega | (simp <;> omega))) | (with_reducible refine below_drewN ?_ _) | (with_reducible refine Below.drew ?_) | ((with_reducible refine Below.step (by assumption) ?_ ?_); rotate_left; (first | omega | (simp <;> omega)))))⟩
set_option maxHeartbeats 8000000 in
theorem I_FormatRecord {i : Int} {A : Option Addr} {c : Nat} {l : List Int} (w : World) (h : RS w 1 A l.length c (ints l)) (ht : Tab w) :
    Calls Tryd.prog 17 #[(vLogged i (.slice A l.length c))] w fun e w' => e = .returned (str (fmtR i l)) ∧ Below w.heap.size w w' := by
  have H0 := Lib.hid h
  have HT := Lib.hid ht
  clear h ht
  cases h1 : inB i 0 1000000000 with
  | false =>
    have HF : Hid (fmtR i l = []) := Lib.hid (fmtR_no (by unfold validR; rw [h1]; rfl))
    go_enter Tryd.func17, Tryd.ntmps17
    go_wp2_with (first | (go_at_call 38; refine (I_within _ _ _ _).mono ?_; rw [h1]; rintro e w' ⟨rfl, rfl⟩) | fail)
    go_ret
    exact ⟨by rw [HF.out]; rfl, (by repeat (first | (with_reducible exact Below.refl _ _) | (with_reducible assumption) | ((with_reducible refine Below.alloc ?_ ?_ _); rotate_left; (first | omega | (simp <;> omega))) | ((with_reducible refine Below.setCell ?_ ?_ _); rotate_left; (first | omega | (simp <;> omega))) | (with_reducible refine below_drewN ?_ _) | (with_reducible refine Below.drew ?_) | ((with_reducible refine Below.step (by assumption) ?_ ?_); rotate_left; (first | omega | (simp <;> omega)))))⟩
  | true =>
    cases h2 : inB l.length 1 144 with
    | false =>
      have HF : Hid (fmtR i l = []) := Lib.hid (fmtR_no (by unfold validR; rw [h1, h2]; rfl))
      go_enter Tryd.func17, Tryd.ntmps17
      go_wp2_with (first | (go_at_call 38; refine (I_within _ _ _ _).mono ?_; (first | rw [h1] | rw [h2]); rintro e w' ⟨rfl, rfl⟩) | fail)
      go_ret
      exact ⟨by rw [HF.out]; rfl, (by repeat (first | (with_reducible exact Below.refl _ _) | (with_reducible assumption) | ((with_reducible refine Below.alloc ?_ ?_ _); rotate_left; (first | omega | (simp <;> omega))) | ((with_reducible refine Below.setCell ?_ ?_ _); rotate_left; (first | omega | (simp <;> omega))) | (with_reducible refine below_drewN ?_ _) | (with_reducible refine Below.drew ?_) | ((with_reducible refine Below.step (by assumption) ?_ ?_); rotate_left; (first | omega | (simp <;> omega)))))⟩
    | true =>
      cases h3 : allIn l 0 256 with
      | false =>
        have HF : Hid (fmtR i l = []) := Lib.hid (fmtR_no (by unfold validR; rw [h1, h2, h3]; rfl))
        go_enter Tryd.func17, Tryd.ntmps17
        go_wp2_with (first | (go_at_call 38; refine (I_within _ _ _ _).mono ?_; (first | rw [h1] | rw [h2]); rintro e w' ⟨rfl, rfl⟩) | (go_at_call 39; refine (I_allWithin _ _ _ _ _ _ (RS.alloc H0.out _)).mono ?_; rw [h3]; rintro e w' ⟨rfl, rfl⟩) | fail)
        go_ret
        exact ⟨by rw [HF.out]; rfl, (by repeat (first | (with_reducible exact Below.refl _ _) | (with_reducible assumption) | ((with_reducible refine Below.alloc ?_ ?_ _); rotate_left; (first | omega | (simp <;> omega))) | ((with_reducible refine Below.setCell ?_ ?_ _); rotate_left; (first | omega | (simp <;> omega))) | (with_reducible refine below_drewN ?_ _) | (with_reducible refine Below.drew ?_) | ((with_reducible refine Below.step (by assumption) ?_ ?_); rotate_left; (first | omega | (simp <;> omega)))))⟩
      | true =>
        obtain ⟨hl1, hl2⟩ := inB_true h2
        have HF : Hid (fmtR i l = [116, 105, 108, 101, 32] ++ fmtI i ++ [32] ++ fmtI (hashF (i :: l)) ++ [32] ++ fmtL l ++ [10]) := Lib.hid (fmtR_yes (by unfold validR; rw [h1, h2, h3]; rfl))
        obtain ⟨sm, hsm⟩ : ∃ sm, hashF (i :: l) = sm := ⟨_, rfl⟩
        obtain ⟨x, hx⟩ : ∃ x, fmtI i = x := ⟨_, rfl⟩
        obtain ⟨y, hy⟩ : ∃ y, fmtI sm = y := ⟨_, rfl⟩
        obtain ⟨z, hz⟩ : ∃ z, fmtL l = z := ⟨_, rfl⟩
        have hxl : x.length ≤ 11 := hx ▸ fmtI_len i
        have hyl : y.length ≤ 11 := hy ▸ fmtI_len sm
        have hzl : z.length ≤ 1728 := by have := fmtL_len l; rw [hz] at this; omega
        obtain ⟨u, hu⟩ : ∃ u, join [[116, 105, 108, 101], x, y, z] [32] = u := ⟨_, rfl⟩
        have hu2 : [116, 105, 108, 101, 32] ++ x ++ [32] ++ y ++ [32] ++ z = u := by rw [← hu]; simp [join_cons, joinTail]
        have hul : u.length ≤ 2000 := by rw [← hu2]; simp; omega
        have b1 : ¬ 9223372036854775807 < u.length + 1 := by omega
        have HX : Hid (∀ wx, Tab wx → Calls Tryd.prog 30 #[.int .i64 i] wx fun e w' => e = .returned (str x) ∧ Below wx.heap.size wx w') := Lib.hid (fun wx ht => by have := I_FormatInt i wx ht; rwa [hx] at this)
        have HY : Hid (∀ wx, Tab wx → Calls Tryd.prog 30 #[.int .i64 sm] wx fun e w' => e = .returned (str y) ∧ Below wx.heap.size wx w') := Lib.hid (fun wx ht => by have := I_FormatInt sm wx ht; rwa [hy] at this)
        have HZ : Hid (∀ wx, Below w.heap.size w wx → Calls Tryd.prog 42 #[.slice A l.length c] wx fun e w' => e = .returned (str z) ∧ Below wx.heap.size wx w') := Lib.hid (fun wx hb => by have := I_FormatInts wx (RS.step hb H0.out) h3 (by omega) (by omega) (HT.out.step hb); rwa [hz] at this)
        have HC : Hid (∀ wx, Below w.heap.size w wx → Calls Tryd.prog 41 #[(vLogged i (.slice A l.length c))] wx fun e w' => e = .returned (.int .i64 sm) ∧ Below wx.heap.size wx w') := Lib.hid (fun wx hb => by have := I_checksum (i := i) wx (RS.step hb H0.out) (by omega); rwa [hsm] at this)
        have HJ : Hid (∀ (wx : World), Calls Tryd.prog 40 #[.slice (some ⟨wx.heap.size, 0, none⟩) 4 4, .string ⟨#[32]⟩] (wx.alloc (.cells #[.string ⟨#[116, 105, 108, 101]⟩, str x, str y, str z] 9)) fun e w' => e = .returned (str u) ∧ Below (wx.alloc (.cells #[.string ⟨#[116, 105, 108, 101]⟩, str x, str y, str z] 9)).heap.size (wx.alloc (.cells #[.string ⟨#[116, 105, 108, 101]⟩, str x, str y, str z] 9)) w') := Lib.hid (fun wx => by
          have hr : RS (wx.alloc (.cells #[.string ⟨#[116, 105, 108, 101]⟩, str x, str y, str z] 9)) 1 (some ⟨wx.heap.size, 0, none⟩) 4 4 (strs [[116, 105, 108, 101], x, y, z]) := Grow.rs (base := 0) (e := 9) (Grow.lit_at (cs := #[.string ⟨#[116, 105, 108, 101]⟩, str x, str y, str z]) (n := 4) rfl rfl (Nat.zero_le _) (by unfold maxLen; omega))
          have := I_Join (ls := [[116, 105, 108, 101], x, y, z]) (sep := [32]) _ hr (by simp) (by simp) (by rw [hu]; omega)
          rwa [hu] at this)
        have HFF : Hid (fmtR i l = u ++ [10]) := Lib.hid (by rw [HF.out, hsm, hx, hy, hz, ← hu2])
        clear hx hy hz hsm hxl hyl hzl HF hu hu2 hul
        go_enter Tryd.func17, Tryd.ntmps17
        go_wp2_with (first | (go_at_call 38; refine (I_within _ _ _ _).mono ?_; (first | rw [h1] | rw [h2]); rintro e w' ⟨rfl, rfl⟩) | (go_at_call 39; refine (I_allWithin _ _ _ _ _ _ (RS.alloc H0.out _)).mono ?_; rw [h3]; rintro e w' ⟨rfl, rfl⟩) | fail)
        go_region_held3 (fun w' => w'.cell? ⟨w.heap.size, 0, none⟩ = some (.int .i64 i) ∧ w'.cell? ⟨w.heap.size, 1, none⟩ = some (.slice A l.length c))
            (first | go_keep | ((try dsimp only); refine ⟨?_, ?_⟩ <;> (go_simp; done)))
            (first | (go_at_call 30; (with_reducible refine (HX.out _ (HT.out.step (by repeat (first | (with_reducible exact Below.refl _ _) | (with_reducible assumption) | ((with_reducible refine Below.alloc ?_ ?_ _); rotate_left; (first | omega | (simp <;> omega))) | ((with_reducible refine Below.setCell ?_ ?_ _); rotate_left; (first | omega | (simp <;> omega))) | (with_reducible refine below_drewN ?_ _) | (with_reducible refine Below.drew ?_) | ((with_reducible refine Below.step (by assumption) ?_ ?_); rotate_left; (first | omega | (simp <;> omega))))))).mono ?_); rintro e wB ⟨rfl, hbB⟩; have hzB := hbB.size; (try simp at hzB); (refine with_box hbB (w.heap.size) ?_ ?_; (first | omega | (simp <;> omega)); intro n0 nf0 nz0)) | (go_at_call 30; (with_reducible refine (HY.out _ (HT.out.step (by repeat (first | (with_reducible exact Below.refl _ _) | (with_reducible assumption) | ((with_reducible refine Below.alloc ?_ ?_ _); rotate_left; (first | omega | (simp <;> omega))) | ((with_reducible refine Below.setCell ?_ ?_ _); rotate_left; (first | omega | (simp <;> omega))) | (with_reducible refine below_drewN ?_ _) | (with_reducible refine Below.drew ?_) | ((with_reducible refine Below.step (by assumption) ?_ ?_); rotate_left; (first | omega | (simp <;> omega))))))).mono ?_); rintro e wC ⟨rfl, hbC⟩; have hzC := hbC.size; (try simp at hzC); (refine with_box hbC (w.heap.size) ?_ ?_; (first | omega | (simp <;> omega)); intro n0 nf0 nz0)) | (go_at_call 42; (with_reducible refine (HZ.out _ (by repeat (first | (with_reducible exact Below.refl _ _) | (with_reducible assumption) | ((with_reducible refine Below.alloc ?_ ?_ _); rotate_left; (first | omega | (simp <;> omega))) | ((with_reducible refine Below.setCell ?_ ?_ _); rotate_left; (first | omega | (simp <;> omega))) | (with_reducible refine below_drewN ?_ _) | (with_reducible refine Below.drew ?_) | ((with_reducible refine Below.step (by assumption) ?_ ?_); rotate_left; (first | omega | (simp <;> omega)))))).mono ?_); rintro e wD ⟨rfl, hbD⟩; have hzD := hbD.size; (try simp at hzD); (refine with_box hbD (w.heap.size) ?_ ?_; (first | omega | (simp <;> omega)); intro n0 nf0 nz0)) | (go_at_call 41; (with_reducible refine (HC.out _ (by repeat (first | (with_reducible exact Below.refl _ _) | (with_reducible assumption) | ((with_reducible refine Below.alloc ?_ ?_ _); rotate_left; (first | omega | (simp <;> omega))) | ((with_reducible refine Below.setCell ?_ ?_ _); rotate_left; (first | omega | (simp <;> omega))) | (with_reducible refine below_drewN ?_ _) | (with_reducible refine Below.drew ?_) | ((with_reducible refine Below.step (by assumption) ?_ ?_); rotate_left; (first | omega | (simp <;> omega)))))).mono ?_); rintro e wE ⟨rfl, hbE⟩; have hzE := hbE.size; (try simp at hzE); (refine with_box hbE (w.heap.size) ?_ ?_; (first | omega | (simp <;> omega)); intro n0 nf0 nz0)) | (go_at_call 40; (with_reducible refine (HJ.out _).mono ?_); rintro e wF ⟨rfl, hbF⟩; have hzF := hbF.size; (try simp at hzF); (refine with_box hbF (w.heap.size) ?_ ?_; (first | omega | (simp <;> omega)); intro n0 nf0 nz0)) | fail)
        all_goals
          go_wp2_with fail
          go_ret
          refine ⟨?_, (by repeat (first | (with_reducible exact Below.refl _ _) | (with_reducible assumption) | ((with_reducible refine Below.alloc ?_ ?_ _); rotate_left; (first | omega | (simp <;> omega))) | ((with_reducible refine Below.setCell ?_ ?_ _); rotate_left; (first | omega | (simp <;> omega))) | (with_reducible refine below_drewN ?_ _) | (with_reducible refine Below.drew ?_) | ((with_reducible refine Below.step (by assumption) ?_ ?_); rotate_left; (first | omega | (simp <;> omega)))))⟩
          rw [HFF.out]
          exact congrArg (fun s => Ending.returned (Value.string s)) (str_cat u [10])
end Go.Proofs.YtlepnjahpmlccaaDoor
