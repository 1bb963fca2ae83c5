/- FormatProgram of the reference and of the program; newlines turned to spaces. -/
import Derived.Test.YtnlbojckobgjpaaGreatDoorBuilderW
import Derived.Test.YtnlbojckobgjpaaGreatDoorUsesS
import Derived.Test.YtnlbojckobgjpaaGreatDoorUsesI
import Derived.Deep.RegionHeld3
set_option linter.unusedVariables false
set_option linter.unusedSimpArgs false
namespace Go.Proofs.YtnlbojckobgjpaaGreatDoor
open Go.RowKit Go.Lib
set_option maxRecDepth 100000
def progF (p : EProg) : List UInt8 := if validP p then progT p else []
theorem root_nat {p : EProg} (h : validP p = true) {k : Nat} (hk : k < p.2.length) : ∃ m : Nat, p.2[k].2 = m ∧ m < p.1.length := by
  obtain ⟨h1, h2, h3⟩ := valid_root h hk
  exact ⟨p.2[k].2.toNat, by omega, by omega⟩
theorem byteCells_app (a b : List UInt8) : Lib.byteCells (a ++ b) = Lib.byteCells a ++ Lib.byteCells b := by simp [Lib.byteCells]
set_option maxHeartbeats 16000000 in
theorem I_FormatProgram {A A2 : Option Addr} {c c2 : Nat} {p : EProg} (w : World) (h : ProgIn w A c A2 c2 p) (h1 : p.1.length ≤ 1048576) (h2 : p.2.length ≤ 1048576) (hta : Tab w) :
    Calls Tryz.prog 5 #[vProg A p.1.length c A2 p.2.length c2] w fun e w' => e = .returned (str (progF p)) ∧ Below w.heap.size w w' := by
  have H0 := Lib.hid h
  have HV0 : Hid (∀ wx, Below w.heap.size w wx → Calls Tryz.prog 15 #[vProg A p.1.length c A2 p.2.length c2] wx fun e w' => e = .returned (.bool (validP p)) ∧ Below wx.heap.size wx w') := Lib.hid (fun wx hb => I_IsValidProgram wx (h.step hb) h1 h2)
  clear h
  unfold progF
  cases hv : validP p with
  | false =>
    rw [hv] at HV0
    go_enter Tryz.func5, Tryz.ntmps5
    go_wp2_with (first | (go_at_call 15; refine (HV0.out _ (by repeat (first | (with_reducible exact Below.refl _ _) | (with_reducible assumption) | ((with_reducible refine Below.alloc ?_ ?_ _); rotate_left; (first | omega | (simp <;> omega))) | ((with_reducible refine Below.setCell ?_ ?_ _); rotate_left; (first | omega | (simp <;> omega))) | (with_reducible refine below_drewN ?_ _) | (with_reducible refine Below.drew ?_) | ((with_reducible refine Below.step (by assumption) ?_ ?_); rotate_left; (first | omega | (simp <;> omega)))))).mono ?_; rintro e w1 ⟨rfl, hb1⟩; have HB1 : Hid (Below w.heap.size w w1) := Lib.hid (Below.step hb1 (by repeat (first | (with_reducible exact Below.refl _ _) | (with_reducible assumption) | ((with_reducible refine Below.alloc ?_ ?_ _); rotate_left; (first | omega | (simp <;> omega))) | ((with_reducible refine Below.setCell ?_ ?_ _); rotate_left; (first | omega | (simp <;> omega))) | (with_reducible refine below_drewN ?_ _) | (with_reducible refine Below.drew ?_) | ((with_reducible refine Below.step (by assumption) ?_ ?_); rotate_left; (first | omega | (simp <;> omega))))) (by first | omega | (simp <;> omega))); clear hb1) | fail)
    go_ret
    exact ⟨rfl, HB1.out⟩
  | true =>
    have HV := Lib.hid hv
    have HTX : Hid (∀ m : Nat, m < p.1.length → ∀ wx, Below w.heap.size w wx → Calls Tryz.prog 17 #[vProg A p.1.length c A2 p.2.length c2, .int .i64 m] wx fun e w' => e = .returned (str (textP p m)) ∧ Below wx.heap.size wx w') := Lib.hid (fun m hm wx hb => I_text w H0.out hv hta p.1.length m hm hm wx hb)
    have hl2 := assigns_len hv
    rw [hv] at HV0
    clear hv hta
    go_enter Tryz.func5, Tryz.ntmps5
    go_wp2_with (first | (go_at_call 15; refine (HV0.out _ (by repeat (first | (with_reducible exact Below.refl _ _) | (with_reducible assumption) | ((with_reducible refine Below.alloc ?_ ?_ _); rotate_left; (first | omega | (simp <;> omega))) | ((with_reducible refine Below.setCell ?_ ?_ _); rotate_left; (first | omega | (simp <;> omega))) | (with_reducible refine below_drewN ?_ _) | (with_reducible refine Below.drew ?_) | ((with_reducible refine Below.step (by assumption) ?_ ?_); rotate_left; (first | omega | (simp <;> omega)))))).mono ?_; rintro e w1 ⟨rfl, hb1⟩; have hz1 := hb1.size; (try simp at hz1); have HB1 : Hid (Below w.heap.size w w1) := Lib.hid (Below.step hb1 (by repeat (first | (with_reducible exact Below.refl _ _) | (with_reducible assumption) | ((with_reducible refine Below.alloc ?_ ?_ _); rotate_left; (first | omega | (simp <;> omega))) | ((with_reducible refine Below.setCell ?_ ?_ _); rotate_left; (first | omega | (simp <;> omega))) | (with_reducible refine below_drewN ?_ _) | (with_reducible refine Below.drew ?_) | ((with_reducible refine Below.step (by assumption) ?_ ?_); rotate_left; (first | omega | (simp <;> omega))))) (by first | omega | (simp <;> omega))); have HP1 : Hid (Own w1 w.heap.size 26 [.slice A p.1.length c, .slice A2 p.2.length c2]) := Lib.hid (Own.step hb1 (Own.new w _ #[_, _])); have r0 : w1.cell? ⟨w.heap.size, 0, none⟩ = some (.slice A p.1.length c) := HP1.out.cell 0; have r1 : w1.cell? ⟨w.heap.size, 1, none⟩ = some (.slice A2 p.2.length c2) := HP1.out.cell 1; have lt1 : w.heap.size < w1.heap.size := (by omega); have n1 : ¬ w.heap.size = w1.heap.size := (by omega); clear hb1) | fail)
    go_loopw [5, 12] (fun _ i wr => ∃ (k : Nat) (q : Value) (A3 : Option Addr) (c3 : Nat), k ≤ p.2.length ∧ i = .int .i64 k ∧ (q = .pointer none ∨ q = .pointer (some ⟨w1.heap.size, 0, none⟩)) ∧ Bld wr w1.heap.size w1.heap.size q A3 c3 (Lib.byteCells (progTo p k)) ∧ Own wr w.heap.size 26 [.slice A p.1.length c, .slice A2 p.2.length c2] ∧ Below w.heap.size w wr) (fun _ i _ => p.2.length - (RowKit.intOf i).toNat)
    case atStart => exact ⟨0, _, _, _, Nat.zero_le _, rfl, .inl rfl, Bld.new w1, (by repeat (first | (with_reducible exact HP1.out) | ((with_reducible refine Own.far ?_ ?_ _); rotate_left; (first | omega | (simp <;> omega))) | (with_reducible refine Own.alloc ?_ _) | (with_reducible refine Own.drewN ?_ _) | (with_reducible refine Own.drew ?_) | (with_reducible refine Own.step (by assumption) ?_))), (by repeat (first | (with_reducible exact Below.refl _ _) | (with_reducible exact HB1.out) | (with_reducible assumption) | ((with_reducible refine Below.alloc ?_ ?_ _); rotate_left; (first | omega | (simp <;> omega))) | ((with_reducible refine Below.setCell ?_ ?_ _); rotate_left; (first | omega | (simp <;> omega))) | (with_reducible refine below_drewN ?_ _) | (with_reducible refine Below.drew ?_) | ((with_reducible refine Below.step (by assumption) ?_ ?_); rotate_left; (first | omega | (simp <;> omega)))))⟩
    case round =>
      obtain ⟨k, q, A3, c3, hk, rfl, hq, hbl, hp, hb⟩ := hrel
      obtain ⟨wo, rfl⟩ : ∃ wo, wo = wr := ⟨_, rfl⟩
      have hz := hb.size
      have hl := hp.lt
      have hbb := hbl.own.lt
      have hgl := hbl.grow.lt
      have hgg := hbl.grow.ge
      have HP := Lib.hid hp
      have HB := Lib.hid hb
      have HBL := Lib.hid hbl
      have p0 : wo.cell? ⟨w.heap.size, 0, none⟩ = some (.slice A p.1.length c) := hp.cell 0
      have p1 : wo.cell? ⟨w.heap.size, 1, none⟩ = some (.slice A2 p.2.length c2) := hp.cell 1
      clear hp hb hbl r0 r1 HP1 HB1
      by_cases hlt : k < p.2.length
      · obtain ⟨b, o, rfl, hbh, hs, x0, x1⟩ := H0.out.2.2.2 k hlt
        have d0 := (HB.out.cell (p := ⟨b, o + k * 2, none⟩) hbh).trans x0
        have d1 := (HB.out.cell (p := ⟨b, o + k * 2 + 1, none⟩) hbh).trans x1
        obtain ⟨m, hm, hmn⟩ := root_nat HV.out hlt
        have HTS := Lib.hid (progTo_succ hlt)
        have HL1 := Lib.hid (progTo_len HV.out k (by omega))
        have HL2 := Lib.hid (assT_len HV.out hlt)
        have HCT : Hid (∀ wx, Below w.heap.size w wx → Calls Tryz.prog 17 #[vProg A p.1.length c (some ⟨b, o, none⟩) p.2.length c2, .int .i64 m] wx fun e w' => e = .returned (str (textP p m)) ∧ Below wx.heap.size wx w') := Lib.hid (fun wx hb => HTX.out m hmn wx hb)
        obtain ⟨⟨nm, rt⟩, hx⟩ : ∃ x, p.2[k] = x := ⟨_, rfl⟩
        rw [hx] at d0 d1 hm hs HTS HL2
        (try dsimp only at d0 d1 hm hs)
        subst hm
        have HAS : Hid (assT p (nm, (m : Int)) = nm ++ [32, 61, 32] ++ textP p m ++ [59, 10]) := Lib.hid rfl
        have i0 : (k : Int) < p.2.length := by omega
        have i00 : (0 : Int) ≤ k := by omega
        generalize textP p m = Y at *
        generalize progTo p k = X at *
        have hL : X.length ≤ 60000 := by have := HL1.out; omega
        have hL2 : nm.length + 3 + Y.length + 2 ≤ 853 := by have := HL2.out; rw [HAS.out] at this; simp only [List.length_append, List.length_cons, List.length_nil] at this; omega
        have s1 : ¬ 9223372036854775807 < nm.length + 3 := by omega
        have s2 : ¬ 9223372036854775807 < nm.length + 3 + Y.length := by omega
        have s3 : ¬ 9223372036854775807 < nm.length + 3 + Y.length + 2 := by omega
        have HLL : Hid (X.length ≤ 60000 ∧ nm.length + 3 + Y.length + 2 ≤ 853) := Lib.hid ⟨hL, hL2⟩
        have HWS : Hid (∀ wx, Below wo.heap.size wo wx → Calls Tryz.prog 16 #[.pointer (some ⟨w1.heap.size, 0, none⟩), .string ((({ data := nm.toArray } ++ { data := #[32, 61, 32] }) ++ { data := Y.toArray }) ++ { data := #[59, 10] })] wx fun e w' => ∃ A4 c4, e = .returned (.tuple #[.int .i64 (nm ++ [32, 61, 32] ++ Y ++ [59, 10]).length, .nilIface]) ∧ Bld w' w1.heap.size w1.heap.size (.pointer (some ⟨w1.heap.size, 0, none⟩)) A4 c4 (Lib.byteCells (X ++ assT p (nm, (m : Int)))) ∧ Only wx.heap.size (w1.heap.size :: gOf A3) wx w') := Lib.hid (fun wx hbx => by
          have := I_WriteString (nm ++ [32, 61, 32] ++ Y ++ [59, 10]) (Bld.step hbx HBL.out) hq (by rw [Lib.byteCells_length]; have := HLL.out; simp only [List.length_append, List.length_cons, List.length_nil]; omega) (by have := hbx.size; omega)
          rw [HAS.out, byteCells_app]
          have e1 : ((({ data := nm.toArray } ++ { data := #[32, 61, 32] } : ByteArray) ++ { data := Y.toArray }) ++ { data := #[59, 10] }) = ⟨(nm ++ [32, 61, 32] ++ Y ++ [59, 10]).toArray⟩ := by
            show (((({ data := nm.toArray } : ByteArray) ++ { data := [32, 61, 32].toArray }) ++ { data := Y.toArray }) ++ { data := [59, 10].toArray }) = _
            rw [str_cat, str_cat, str_cat]
          rw [e1]
          exact this)
        have ng1 : ∀ x, x ∈ gOf A3 → ¬ x = wo.heap.size := fun x hx e => by have := hgl x hx; omega
        have ng2 : ∀ x, x ∈ gOf A3 → ¬ x = w.heap.size := fun x hx e => by have := hgg x hx; omega
        clear x0 x1 hs hx hL hL2
        go_wp2_with fail
        go_region_held3 (fun w' => w'.cell? ⟨wo.heap.size, 0, none⟩ = some (str nm) ∧ w'.cell? ⟨wo.heap.size, 1, none⟩ = some (.int .i64 m) ∧ w'.cell? ⟨w.heap.size, 0, none⟩ = some (.slice A p.1.length c) ∧ w'.cell? ⟨w.heap.size, 1, none⟩ = some (.slice (some ⟨b, o, none⟩) p.2.length c2))
          (first | go_keep | ((try dsimp only); refine ⟨?_, ?_, ?_, ?_⟩ <;> (go_simp; done)))
          (first | (go_at_call 17; (with_reducible refine (HCT.out _ (by repeat (first | (with_reducible exact Below.refl _ _) | (with_reducible exact HB.out) | (with_reducible assumption) | ((with_reducible refine Below.alloc ?_ ?_ _); rotate_left; (first | omega | (simp <;> omega))) | ((with_reducible refine Below.setCell ?_ ?_ _); rotate_left; (first | omega | (simp <;> omega))) | (with_reducible refine below_drewN ?_ _) | (with_reducible refine Below.drew ?_) | ((with_reducible refine Below.step (by assumption) ?_ ?_); rotate_left; (first | omega | (simp <;> omega)))))).mono ?_); rintro e wA ⟨rfl, hbA⟩; have hzA := hbA.size; (try simp at hzA); (refine with_box hbA (wo.heap.size) ?_ ?_; (first | omega | (simp <;> omega)); intro n0 nf0 nz0); (refine with_box hbA (w.heap.size) ?_ ?_; (first | omega | (simp <;> omega)); intro m0 mf0 mz0)) | (go_at_call 16; (with_reducible refine (HWS.out _ (by repeat (first | (with_reducible exact Below.refl _ _) | (with_reducible assumption) | ((with_reducible refine Below.alloc ?_ ?_ _); rotate_left; (first | omega | (simp <;> omega))) | ((with_reducible refine Below.setCell ?_ ?_ _); rotate_left; (first | omega | (simp <;> omega))) | (with_reducible refine below_drewN ?_ _) | (with_reducible refine Below.drew ?_) | ((with_reducible refine Below.step (by assumption) ?_ ?_); rotate_left; (first | omega | (simp <;> omega)))))).mono ?_); rintro e wB ⟨A4, c4, rfl, hbB, hoB⟩; have y0 := (hoB.cell wo.heap.size (by first | omega | (simp <;> omega)) (by simp only [List.mem_cons, not_or]; exact ⟨by omega, fun h => ng1 _ h rfl⟩)).1; have y1 := (hoB.cell w.heap.size (by first | omega | (simp <;> omega)) (by simp only [List.mem_cons, not_or]; exact ⟨by omega, fun h => ng2 _ h rfl⟩)).1) | fail)
        all_goals
          have HBB := Lib.hid hbB
          have HOB := Lib.hid hoB
          clear hbB hoB
          go_wp2_with fail
          go_roundw
          case rel =>
            refine ⟨k + 1, _, A4, c4, by omega, by go_num, .inr rfl, ?_, ?_, ?_⟩
            · rw [HTS.out]; exact HBB.out
            · exact HOB.out.own (g := w.heap.size) (by repeat (first | (with_reducible exact HP.out) | ((with_reducible refine Own.far ?_ ?_ _); rotate_left; (first | omega | (simp <;> omega))) | (with_reducible refine Own.alloc ?_ _) | (with_reducible refine Own.drewN ?_ _) | (with_reducible refine Own.drew ?_) | (with_reducible refine Own.step (by assumption) ?_))) (by first | omega | (simp <;> omega)) (by simp only [List.mem_cons, not_or]; exact ⟨by omega, fun h => ng2 _ h rfl⟩)
            · exact Below.trans (by repeat (first | (with_reducible exact Below.refl _ _) | (with_reducible exact HB.out) | (with_reducible assumption) | ((with_reducible refine Below.alloc ?_ ?_ _); rotate_left; (first | omega | (simp <;> omega))) | ((with_reducible refine Below.setCell ?_ ?_ _); rotate_left; (first | omega | (simp <;> omega))) | (with_reducible refine below_drewN ?_ _) | (with_reducible refine Below.drew ?_) | ((with_reducible refine Below.step (by assumption) ?_ ?_); rotate_left; (first | omega | (simp <;> omega))))) (HOB.out.below (by first | omega | (simp <;> omega)) (by intro x hx; rcases List.mem_cons.1 hx with rfl | hx; omega; have := hgg x hx; omega))
          case measure => simp [RowKit.intOf] <;> omega
      · obtain rfl : k = p.2.length := by omega
        have HSB : Hid (∀ wx, wx = wo → Calls Tryz.prog 18 #[.pointer (some ⟨w1.heap.size, 0, none⟩)] wx fun e w' => e = .returned (str (progT p)) ∧ Below w1.heap.size wx w') := Lib.hid (fun wx hx => by
          subst hx
          exact Tryz.Builder_String_any w1.heap.size w1.heap.size (progT p) wx (HBL.out.is hq) (by omega))
        go_wp2_with (first | (go_at_call 18; (with_reducible refine (HSB.out _ rfl).mono ?_); rintro e wA ⟨rfl, hbA⟩) | fail)
        go_ret
        exact ⟨rfl, Below.trans HB.out (hbA.mono (by omega))⟩
end Go.Proofs.YtnlbojckobgjpaaGreatDoor
