/- The owners of the nodes: l14Owners of the reference, owners of the program (a closure that calls itself). -/
import Derived.Test.YtnlbojckobgjpaaGreatDoorUsesS
import Derived.Test.YtnlbojckobgjpaaGreatDoorMgA
import Derived.Laws.EntriesVeiled
set_option linter.unusedVariables false
set_option linter.unusedSimpArgs false
namespace Go.Proofs.YtnlbojckobgjpaaGreatDoor
open Go.RowKit Go.Lib
set_option maxRecDepth 100000
theorem ints_set (o : List Int) (m : Nat) (v : Int) : (ints o).set m (.int .i64 v) = ints (o.set m v) := by simp [ints, List.map_set]
theorem setAll_take {ls : List Nat} {k : Int} {o : List Int} {t : Nat} (h : t < ls.length) : setAll (ls.take (t + 1)) k o = (setAll (ls.take t) k o).set ls[t] k := by
  unfold setAll; rw [List.take_succ_eq_append_getElem h, List.foldl_append]; rfl
theorem ints_getD {o : List Int} {i : Nat} (h : i < o.length) : (ints o)[i]? = some (.int .i64 (o.getD i 0)) := by simp [h]
theorem gOfP_at {p : EProg} {i : Nat} (h : i < p.1.length) : (gOfP p).getD i [] = p.1[i].2.2.2.map Int.toNat := by
  rw [getD_at (by rw [gOfP_len]; exact h)]; simp [gOfP]
theorem rOfP_at {p : EProg} {i : Nat} (h : i < p.2.length) : (rOfP p).getD i 0 = p.2[i].2.toNat := by
  rw [getD_at (by simp [rOfP]; exact h)]; simp [rOfP]
theorem root_is {p : EProg} (h : validP p = true) {k : Nat} (hk : k < p.2.length) : ∃ m : Nat, p.2[k].2 = m ∧ m < p.1.length ∧ (rOfP p).getD k 0 = m := by
  obtain ⟨h1, h2, h3⟩ := valid_root h hk
  refine ⟨p.2[k].2.toNat, by omega, by omega, rOfP_at hk⟩
theorem arg_is {p : EProg} (h : nodesTo p p.1.length = true) {i : Nat} (hi : i < p.1.length) {t : Nat} (ht : t < p.1[i].2.2.2.length) : ∃ m : Nat, p.1[i].2.2.2[t] = m ∧ m < i ∧ ∃ h' : t < ((gOfP p).getD i []).length, ((gOfP p).getD i [])[t] = m := by
  have h1 := node_args h hi _ (List.getElem_mem ht)
  refine ⟨p.1[i].2.2.2[t].toNat, by omega, by omega, by rw [gOfP_at hi, List.length_map]; exact ht, ?_⟩
  simp only [gOfP_at hi, List.getElem_map]
set_option maxHeartbeats 16000000 in
theorem S_l14Owners {A A2 : Option Addr} {c c2 : Nat} {p : EProg} (w : World) (h : ProgIn w A c A2 c2 p) (hv : validP p = true) :
    Calls Tryz.prog 100 #[vProg A p.1.length c A2 p.2.length c2] w fun e w' => ∃ g, e = .returned (sl g p.1.length) ∧ Own w' g 3 (ints (ownP p)) ∧ w.heap.size ≤ g ∧ Below w.heap.size w w' := by
  have H0 := Lib.hid h
  have HV := Lib.hid hv
  have h1 := valid_len hv
  have h2 := assigns_len hv
  clear h hv
  have hmk : ∀ wx : World, (Instr.makeSlice 37 (.int .i64 p.1.length) (.int .i64 p.1.length)).run Tryz.prog wx = .ok (.slice (some ⟨wx.heap.size, 0, none⟩) p.1.length p.1.length) (wx.alloc (.cells (madeCells #[Value.int .i64 0] p.1.length) 3)) := by
    intro wx
    have := run_mk (P := Tryz.prog) 37 3 _ 1 8 Tryz.underlying37 T.infoInt p.1.length (by omega) (by omega) wx
    simp only [Nat.mul_one] at this
    exact this
  have HP0 : Hid (Own ((w.alloc (.cells #[.slice A p.1.length c, .slice A2 p.2.length c2] 26)).alloc (.cells (madeCells #[Value.int .i64 0] p.1.length) 3)) w.heap.size 26 [.slice A p.1.length c, .slice A2 p.2.length c2]) := Lib.hid (Own.alloc (Own.new w _ #[_, _]) _)
  have HU0 : Hid (Own ((w.alloc (.cells #[.slice A p.1.length c, .slice A2 p.2.length c2] 26)).alloc (.cells (madeCells #[Value.int .i64 0] p.1.length) 3)) (w.heap.size + 1) 3 (ints (rootsTo p.1.length (rOfP p) 0))) := Lib.hid (by rw [rootsTo, ← zeros_ints]; exact Own.at_new (by simp))
  have hwn : IntKind.i64.wrap ((p.1.length : Int) - 1) = (p.1.length : Int) - 1 := IntWalk.i64_in _ (by omega)
  go_enter Tryz.func100, Tryz.ntmps100
  go_wp2_with fail
  clear hmk
  go_loopw [4, 5, 16] (fun _ _ i wr => ∃ j : Nat, j ≤ p.2.length ∧ i = .int .i64 j ∧ Own wr w.heap.size 26 [.slice A p.1.length c, .slice A2 p.2.length c2] ∧ Own wr (w.heap.size + 1) 3 (ints (rootsTo p.1.length (rOfP p) j)) ∧ Below w.heap.size w wr) (fun _ _ i _ => p.2.length - (RowKit.intOf i).toNat)
  case atStart => exact ⟨0, Nat.zero_le _, rfl, HP0.out, HU0.out, (by repeat (first | (with_reducible exact Below.refl _ _) | (with_reducible assumption) | ((with_reducible refine Below.alloc ?_ ?_ _); rotate_left; (first | omega | (simp <;> omega))) | ((with_reducible refine Below.setCell ?_ ?_ _); rotate_left; (first | omega | (simp <;> omega))) | (with_reducible refine below_drewN ?_ _) | (with_reducible refine Below.drew ?_) | ((with_reducible refine Below.step (by assumption) ?_ ?_); rotate_left; (first | omega | (simp <;> omega)))))⟩
  case round =>
    obtain ⟨j, hj, rfl, hp, hu, hb⟩ := hrel
    obtain ⟨wo, rfl⟩ : ∃ wo, wo = wr := ⟨_, rfl⟩
    have hz := hb.size
    have hl := hu.lt
    have HP := Lib.hid hp
    have HU := Lib.hid hu
    have HB := Lib.hid hb
    have p0 : wo.cell? ⟨w.heap.size, 0, none⟩ = some (.slice A p.1.length c) := hp.cell 0
    have p1 : wo.cell? ⟨w.heap.size, 1, none⟩ = some (.slice A2 p.2.length c2) := hp.cell 1
    have hol : (rootsTo p.1.length (rOfP p) j).length = p.1.length := rootsTo_len _ _ _
    clear hp hb HP0 HU0
    by_cases hlj : j < p.2.length
    · obtain ⟨b, o, rfl, hbh, hs, x0, x1⟩ := H0.out.2.2.2 j hlj
      have d0 := (HB.out.cell (p := ⟨b, o + j * 2, none⟩) hbh).trans x0
      have d1 := (HB.out.cell (p := ⟨b, o + j * 2 + 1, none⟩) hbh).trans x1
      obtain ⟨m, hm, hmn, hr⟩ := root_is HV.out hlj
      rw [hm] at d1
      have HNX : Hid ((ints (rootsTo p.1.length (rOfP p) j)).set m (.int .i64 j) = ints (rootsTo p.1.length (rOfP p) (j + 1))) := Lib.hid (by rw [ints_set, rootsTo, hr])
      have e2 : wo.cell? ⟨w.heap.size + 1, m, none⟩ = some (.int .i64 ((rootsTo p.1.length (rOfP p) j).getD m 0)) := by rw [hu.cell, ints_getD (by omega)]
      have e3 : wo.frozen? ⟨w.heap.size + 1, m, none⟩ = false := hu.frozen _
      have i1 : (j : Int) < p.2.length := by omega
      have i2 : (m : Int) < p.1.length := by omega
      have i3 : (0 : Int) ≤ m := by omega
      generalize hnm : p.2[j].1 = nm at *
      clear x0 x1 hm hu hs hnm hr
      go_wp2_with fail
      go_roundw
      case rel => exact ⟨j + 1, by omega, by go_num, (by repeat (first | (with_reducible exact HP.out) | ((with_reducible refine Own.far ?_ ?_ _); rotate_left; (first | omega | (simp <;> omega))) | (with_reducible refine Own.alloc ?_ _) | (with_reducible refine Own.drewN ?_ _) | (with_reducible refine Own.drew ?_) | (with_reducible refine Own.step (by assumption) ?_))), by rw [← HNX.out]; first | exact Own.set_ (by repeat (first | (with_reducible exact HU.out) | ((with_reducible refine Own.far ?_ ?_ _); rotate_left; (first | omega | (simp <;> omega))) | (with_reducible refine Own.alloc ?_ _) | (with_reducible refine Own.drewN ?_ _) | (with_reducible refine Own.drew ?_) | (with_reducible refine Own.step (by assumption) ?_))) m _ | exact Own.alloc (Own.set_ (by repeat (first | (with_reducible exact HU.out) | ((with_reducible refine Own.far ?_ ?_ _); rotate_left; (first | omega | (simp <;> omega))) | (with_reducible refine Own.alloc ?_ _) | (with_reducible refine Own.drewN ?_ _) | (with_reducible refine Own.drew ?_) | (with_reducible refine Own.step (by assumption) ?_))) m _) _, (by repeat (first | (with_reducible exact Below.refl _ _) | (with_reducible exact HB.out) | (with_reducible assumption) | ((with_reducible refine Below.alloc ?_ ?_ _); rotate_left; (first | omega | (simp <;> omega))) | ((with_reducible refine Below.setCell ?_ ?_ _); rotate_left; (first | omega | (simp <;> omega))) | (with_reducible refine below_drewN ?_ _) | (with_reducible refine Below.drew ?_) | ((with_reducible refine Below.step (by assumption) ?_ ?_); rotate_left; (first | omega | (simp <;> omega)))))⟩
      case measure => simp [RowKit.intOf] <;> omega
    · obtain rfl : j = p.2.length := by omega
      have HD0 : Hid (Own wo (w.heap.size + 1) 3 (ints (downTo (gOfP p) (rootsTo p.1.length (rOfP p) (rOfP p).length) 0))) := Lib.hid (by rw [downTo, show (rOfP p).length = p.2.length by simp [rOfP]]; exact HU.out)
      clear hu
      go_wp2_with fail
      go_loopw [6, 8] (fun i _ wr => ∃ j : Nat, j ≤ p.1.length ∧ i = .int .i64 ((p.1.length : Int) - 1 - j) ∧ Own wr w.heap.size 26 [.slice A p.1.length c, .slice A2 p.2.length c2] ∧ Own wr (w.heap.size + 1) 3 (ints (downTo (gOfP p) (rootsTo p.1.length (rOfP p) (rOfP p).length) j)) ∧ Below w.heap.size w wr) (fun i _ _ => (RowKit.intOf i + 1).toNat)
      case atStart => exact ⟨0, Nat.zero_le _, by simp, HP.out, HD0.out, HB.out⟩
      case round =>
        obtain ⟨j, hj, rfl, hp2, hu2, hb2⟩ := hrel
        obtain ⟨wi, rfl⟩ : ∃ wi, wi = wr := ⟨_, rfl⟩
        have hz2 := hb2.size
        have hl2 := hu2.lt
        have HP2 := Lib.hid hp2
        have HU2 := Lib.hid hu2
        have HB2 := Lib.hid hb2
        have q0 : wi.cell? ⟨w.heap.size, 0, none⟩ = some (.slice A p.1.length c) := hp2.cell 0
        have q1 : wi.cell? ⟨w.heap.size, 1, none⟩ = some (.slice A2 p.2.length c2) := hp2.cell 1
        have hol2 : (downTo (gOfP p) (rootsTo p.1.length (rOfP p) (rOfP p).length) j).length = p.1.length := by rw [downTo_len, rootsTo_len]
        clear hp2 hb2 hu2 HD0 p0 p1
        by_cases hlj : j < p.1.length
        · obtain ⟨i, hi⟩ : ∃ i, i + j + 1 = p.1.length := ⟨p.1.length - 1 - j, by omega⟩
          have hii : (p.1.length : Int) - 1 - j = i := by omega
          have hilt : i < p.1.length := by omega
          rw [hii]
          have HDN : Hid (downTo (gOfP p) (rootsTo p.1.length (rOfP p) (rOfP p).length) (j + 1) = setAll ((gOfP p).getD i []) ((downTo (gOfP p) (rootsTo p.1.length (rOfP p) (rOfP p).length) j).getD i 0) (downTo (gOfP p) (rootsTo p.1.length (rOfP p) (rOfP p).length) j)) := Lib.hid (by rw [downTo, gOfP_len, show p.1.length - 1 - j = i by omega])
          generalize downTo (gOfP p) (rootsTo p.1.length (rOfP p) (rOfP p).length) j = dl at *
          obtain ⟨b, o, A', c', rfl, hbh, hs, hr, x0, x1, x2, x3⟩ := H0.out.1.2.2 i hilt
          have d3 := (HB2.out.cell (p := ⟨b, o + i * 4 + 3, none⟩) hbh).trans x3
          have HR := Lib.hid hr
          have HAR : Hid (∀ t (ht : t < p.1[i].2.2.2.length), ∃ m : Nat, p.1[i].2.2.2[t] = m ∧ m < i ∧ ∃ h' : t < ((gOfP p).getD i []).length, ((gOfP p).getD i [])[t] = m) := Lib.hid (fun t ht => arg_is (valid_nodes HV.out) hilt ht)
          have HGL : Hid (((gOfP p).getD i []).length = p.1[i].2.2.2.length) := Lib.hid (by rw [gOfP_at hilt, List.length_map])
          have HLT : Hid (∀ a ∈ (gOfP p).getD i [], a < i) := Lib.hid (fun a ha => valid_down (valid_nodes HV.out) i a ha)
          have ha3 : p.1[i].2.2.2.length ≤ 3 := (okNode_args (nodesTo_at (valid_nodes HV.out) hilt)).1
          generalize p.1[i].2.2.2 = args at *
          have i1 : (i : Int) < p.1.length := by omega
          have i2 : (0 : Int) ≤ i := by omega
          have hw1 : IntKind.i64.wrap ((i : Int) - 1) = (i : Int) - 1 := IntWalk.i64_in _ (by omega)
          clear x0 x1 x2 x3 hs hr hii
          go_wp2_with fail
          go_loopw [8, 42] (fun _ i_ wr => ∃ t : Nat, t ≤ args.length ∧ i_ = .int .i64 t ∧ Own wr w.heap.size 26 [.slice (some ⟨b, o, none⟩) p.1.length c, .slice A2 p.2.length c2] ∧ Own wr (w.heap.size + 1) 3 (ints (setAll (((gOfP p).getD i []).take t) (dl.getD i 0) dl)) ∧ Below w.heap.size w wr) (fun _ i_ _ => args.length - (RowKit.intOf i_).toNat)
          case atStart => exact ⟨0, Nat.zero_le _, rfl, HP2.out, by rw [List.take_zero]; exact HU2.out, HB2.out⟩
          case round =>
            obtain ⟨t, ht, rfl, hp3, hu3, hb3⟩ := hrel
            obtain ⟨wj, rfl⟩ : ∃ wj, wj = wr := ⟨_, rfl⟩
            have hz3 := hb3.size
            have hl3 := hu3.lt
            have HP3 := Lib.hid hp3
            have HU3 := Lib.hid hu3
            have HB3 := Lib.hid hb3
            have hol3 : (setAll (((gOfP p).getD i []).take t) (dl.getD i 0) dl).length = p.1.length := by rw [setAll_len]; exact hol2
            clear hp3 hb3
            by_cases hlt : t < args.length
            · obtain ⟨b2, o2, rfl, hbh2, hcell2⟩ := (RS.step HB3.out HR.out).open_.2.2 (by omega)
              have e1 : wj.cell? ⟨b2, o2 + t, none⟩ = some (.int .i64 args[t]) := by rw [hcell2 t (by omega), ints_at hlt]
              obtain ⟨m, hm, hmi, h', hg⟩ := HAR.out t hlt
              rw [hm] at e1
              have e2 : wj.cell? ⟨w.heap.size + 1, i, none⟩ = some (.int .i64 (dl.getD i 0)) := by
                rw [hu3.cell, ints_getD (by omega)]
                rw [(setAll_at (((gOfP p).getD i []).take t) (dl.getD i 0) i dl).2 (fun hmem => by have := HLT.out i (List.mem_of_mem_take hmem); omega)]
              have e4 : wj.cell? ⟨w.heap.size + 1, m, none⟩ = some (.int .i64 ((setAll (((gOfP p).getD i []).take t) (dl.getD i 0) dl).getD m 0)) := by rw [hu3.cell, ints_getD (by omega)]
              have e3 : wj.frozen? ⟨w.heap.size + 1, m, none⟩ = false := hu3.frozen _
              have HNX : Hid ((ints (setAll (((gOfP p).getD i []).take t) (dl.getD i 0) dl)).set m (.int .i64 (dl.getD i 0)) = ints (setAll (((gOfP p).getD i []).take (t + 1)) (dl.getD i 0) dl)) := Lib.hid (by rw [ints_set, setAll_take h', hg])
              generalize (setAll (((gOfP p).getD i []).take t) (dl.getD i 0) dl).getD m 0 = old at *
              generalize dl.getD i 0 = kv at *
              have j1 : (t : Int) < args.length := by omega
              have j2 : (m : Int) < p.1.length := by omega
              have j3 : (0 : Int) ≤ m := by omega
              clear hcell2 hu3 hm hg hol3
              go_wp2_with fail
              go_roundw
              case rel => exact ⟨t + 1, by omega, by go_num, (by repeat (first | (with_reducible exact HP3.out) | ((with_reducible refine Own.far ?_ ?_ _); rotate_left; (first | omega | (simp <;> omega))) | (with_reducible refine Own.alloc ?_ _) | (with_reducible refine Own.drewN ?_ _) | (with_reducible refine Own.drew ?_) | (with_reducible refine Own.step (by assumption) ?_))), by rw [← HNX.out]; exact Own.set_ HU3.out m _, (by repeat (first | (with_reducible exact Below.refl _ _) | (with_reducible exact HB3.out) | (with_reducible assumption) | ((with_reducible refine Below.alloc ?_ ?_ _); rotate_left; (first | omega | (simp <;> omega))) | ((with_reducible refine Below.setCell ?_ ?_ _); rotate_left; (first | omega | (simp <;> omega))) | (with_reducible refine below_drewN ?_ _) | (with_reducible refine Below.drew ?_) | ((with_reducible refine Below.step (by assumption) ?_ ?_); rotate_left; (first | omega | (simp <;> omega)))))⟩
              case measure => simp [RowKit.intOf] <;> omega
            · obtain rfl : t = args.length := by omega
              have HUX : Hid (Own wj (w.heap.size + 1) 3 (ints (downTo (gOfP p) (rootsTo p.1.length (rOfP p) (rOfP p).length) (j + 1)))) := Lib.hid (by rw [HDN.out]; have := HU3.out; rw [List.take_of_length_le (by rw [HGL.out]; exact Nat.le_refl _)] at this; exact this)
              clear hu3
              go_wp2_with fail
              go_roundw
              case rel => exact ⟨j + 1, by omega, congrArg (Value.int .i64) (by omega), HP3.out, HUX.out, HB3.out⟩
              case measure => simp [RowKit.intOf] <;> omega
        · obtain rfl : j = p.1.length := by omega
          have hm1 : (p.1.length : Int) - 1 - p.1.length = -1 := by omega
          rw [hm1]
          have HUE : Hid (Own wi (w.heap.size + 1) 3 (ints (ownP p))) := Lib.hid (by have := HU2.out; unfold ownP ownS; rw [gOfP_len]; exact this)
          go_wp2_with fail
          go_ret
          exact ⟨_, rfl, HUE.out, by omega, HB2.out⟩
end Go.Proofs.YtnlbojckobgjpaaGreatDoor
