/- MADE BY PROGRAM (genuses.py). l13Uses and IsValidProgram of the reference. -/
import Derived.Test.YtnlbojckobgjpaaGreatDoorNodeV
set_option linter.unusedVariables false
set_option linter.unusedSimpArgs false
namespace Go.Proofs.YtnlbojckobgjpaaGreatDoor
open Go.RowKit Go.Lib
set_option maxRecDepth 100000
set_option maxHeartbeats 16000000 in
theorem S_l13Uses {A A2 : Option Addr} {c c2 : Nat} {p : EProg} (w : World) (h : ProgIn w A c A2 c2 p) (hn : nodesTo p p.1.length = true) (ha : assignsTo p p.2.length = true) (h1 : p.1.length ≤ 1048576) (h2 : p.2.length ≤ 1048576) :
    Calls Tryz.prog 99 #[vProg A p.1.length c A2 p.2.length c2] w fun e w' => ∃ g, e = .returned (sl g p.1.length) ∧ Own w' g 3 (ints (cntL p.1.length (usesP p))) ∧ w.heap.size ≤ g ∧ Below w.heap.size w w' := by
  have H0 := Lib.hid h
  have HN := Lib.hid hn
  have HA := Lib.hid ha
  clear h hn ha
  have hmk : ∀ wx : World, (Instr.makeSlice 37 (.int .i64 p.1.length) (.int .i64 p.1.length)).run Tryz.prog wx = .ok (.slice (some ⟨wx.heap.size, 0, none⟩) p.1.length p.1.length) (wx.alloc (.cells (madeCells #[Value.int .i64 0] p.1.length) 3)) := by
    intro wx
    have := run_mk (P := Tryz.prog) 37 3 _ 1 8 Tryz.underlying37 T.infoInt p.1.length (by omega) (by omega) wx
    simp only [Nat.mul_one] at this
    exact this
  have HP0 : Hid (Own ((w.alloc (.cells #[.slice A p.1.length c, .slice A2 p.2.length c2] 26)).alloc (.cells (madeCells #[Value.int .i64 0] p.1.length) 3)) w.heap.size 26 [.slice A p.1.length c, .slice A2 p.2.length c2]) := Lib.hid (Own.alloc (Own.new w _ #[_, _]) _)
  have HU0 : Hid (Own ((w.alloc (.cells #[.slice A p.1.length c, .slice A2 p.2.length c2] 26)).alloc (.cells (madeCells #[Value.int .i64 0] p.1.length) 3)) (w.heap.size + 1) 3 (ints (cntL p.1.length (nodeUses p 0)))) := Lib.hid (by rw [show nodeUses p 0 = [] from rfl, cntL_nil, ← zeros_ints]; exact Own.at_new (by simp))
  go_enter Tryz.func99, Tryz.ntmps99
  go_wp2_with fail
  clear hmk
  go_loopw [5, 17] (fun _ i wr => ∃ k : Nat, k ≤ p.1.length ∧ i = .int .i64 k ∧ Own wr w.heap.size 26 [.slice A p.1.length c, .slice A2 p.2.length c2] ∧ Own wr (w.heap.size + 1) 3 (ints (cntL p.1.length (nodeUses p k))) ∧ Below w.heap.size w wr) (fun _ i _ => p.1.length - (RowKit.intOf i).toNat)
  case atStart => exact ⟨0, Nat.zero_le _, rfl, HP0.out, HU0.out, (by repeat (first | (with_reducible exact Below.refl _ _) | (with_reducible assumption) | ((with_reducible refine Below.alloc ?_ ?_ _); rotate_left; (first | omega | (simp <;> omega))) | ((with_reducible refine Below.setCell ?_ ?_ _); rotate_left; (first | omega | (simp <;> omega))) | (with_reducible refine below_drewN ?_ _) | (with_reducible refine Below.drew ?_) | ((with_reducible refine Below.step (by assumption) ?_ ?_); rotate_left; (first | omega | (simp <;> omega)))))⟩
  case round =>
    obtain ⟨k, hk, rfl, hp, hu, hb⟩ := hrel
    obtain ⟨wo, rfl⟩ : ∃ wo, wo = wr := ⟨_, rfl⟩
    have hz := hb.size
    have hl := hu.lt
    have HP := Lib.hid hp
    have HU := Lib.hid hu
    have HB := Lib.hid hb
    have p0 : wo.cell? ⟨w.heap.size, 0, none⟩ = some (.slice A p.1.length c) := hp.cell 0
    have p1 : wo.cell? ⟨w.heap.size, 1, none⟩ = some (.slice A2 p.2.length c2) := hp.cell 1
    clear hp hu hb HP0 HU0
    by_cases hlt : k < p.1.length
    ·
      obtain ⟨b, o, A', c', rfl, hbh, hs, hr, x0, x1, x2, x3⟩ := H0.out.1.2.2 k hlt
      have d0 := (HB.out.cell (p := ⟨b, o + k * 4, none⟩) hbh).trans x0
      have d1 := (HB.out.cell (p := ⟨b, o + k * 4 + 1, none⟩) hbh).trans x1
      have d2 := (HB.out.cell (p := ⟨b, o + k * 4 + 2, none⟩) hbh).trans x2
      have d3 := (HB.out.cell (p := ⟨b, o + k * 4 + 3, none⟩) hbh).trans x3
      clear x0 x1 x2 x3
      obtain ⟨⟨op, name, num, args⟩, hx⟩ : ∃ x, p.1[k] = x := ⟨_, rfl⟩
      rw [hx] at d0 d1 d2 d3 hr hs
      (try dsimp only at d0 d1 d2 d3 hr hs)
      have HX := Lib.hid hx
      have HR := Lib.hid hr
      have HS := Lib.hid hs
      have i0 : (k : Int) < p.1.length := by omega
      have i00 : (0 : Int) ≤ k := by omega
      have HUL : Hid ((nodeUses p k).length ≤ 3 * k) := Lib.hid (nodeUses_len k (by omega) (nodesTo_mono (by omega) (Nat.le_refl _) HN.out))
      have HOK : Hid (args.length ≤ 3 ∧ ∀ a ∈ args, 0 ≤ a ∧ a < k) := Lib.hid (by have := okNode_args (nodesTo_at HN.out hlt); rw [hx] at this; exact this)
      clear hx hr hs
      have ha3 := HOK.out.1
      go_wp2_with fail
      go_loopw [7, 24] (fun _ i wr => ∃ j : Nat, j ≤ args.length ∧ i = .int .i64 j ∧ Own wr w.heap.size 26 [.slice (some ⟨b, o, none⟩) p.1.length c, .slice A2 p.2.length c2] ∧ Own wr (w.heap.size + 1) 3 (ints (cntL p.1.length (nodeUses p k ++ (args.take j).map Int.toNat))) ∧ Below w.heap.size w wr) (fun _ i _ => args.length - (RowKit.intOf i).toNat)
      case atStart => exact ⟨0, Nat.zero_le _, rfl, (by repeat (first | (with_reducible exact HP.out) | ((with_reducible refine Own.far ?_ ?_ _); rotate_left; (first | omega | (simp <;> omega))) | (with_reducible refine Own.alloc ?_ _) | (with_reducible refine Own.drewN ?_ _) | (with_reducible refine Own.drew ?_) | (with_reducible refine Own.step (by assumption) ?_))), by rw [List.take_zero, List.map_nil, List.append_nil]; exact (by repeat (first | (with_reducible exact HU.out) | ((with_reducible refine Own.far ?_ ?_ _); rotate_left; (first | omega | (simp <;> omega))) | (with_reducible refine Own.alloc ?_ _) | (with_reducible refine Own.drewN ?_ _) | (with_reducible refine Own.drew ?_) | (with_reducible refine Own.step (by assumption) ?_))), (by repeat (first | (with_reducible exact Below.refl _ _) | (with_reducible exact HB.out) | (with_reducible assumption) | ((with_reducible refine Below.alloc ?_ ?_ _); rotate_left; (first | omega | (simp <;> omega))) | ((with_reducible refine Below.setCell ?_ ?_ _); rotate_left; (first | omega | (simp <;> omega))) | (with_reducible refine below_drewN ?_ _) | (with_reducible refine Below.drew ?_) | ((with_reducible refine Below.step (by assumption) ?_ ?_); rotate_left; (first | omega | (simp <;> omega)))))⟩
      case round =>
        obtain ⟨j, hj, rfl, hp2, hu2, hb2⟩ := hrel
        obtain ⟨wi, rfl⟩ : ∃ wi, wi = wr := ⟨_, rfl⟩
        have hz2 := hb2.size
        have hl2 := hu2.lt
        have HP2 := Lib.hid hp2
        have HU2 := Lib.hid hu2
        have HB2 := Lib.hid hb2
        have q0 : wi.cell? ⟨w.heap.size, 0, none⟩ = some (.slice (some ⟨b, o, none⟩) p.1.length c) := hp2.cell 0
        have q1 : wi.cell? ⟨w.heap.size, 1, none⟩ = some (.slice A2 p.2.length c2) := hp2.cell 1
        clear hp2 hb2
        by_cases hlj : j < args.length
        · obtain ⟨b2, o2, rfl, hbh2, hcell2⟩ := (RS.step HB2.out HR.out).open_.2.2 (by omega)
          have e1 : wi.cell? ⟨b2, o2 + j, none⟩ = some (.int .i64 args[j]) := by rw [hcell2 j (by omega), ints_at hlj]
          have hin := HOK.out.2 _ (List.getElem_mem hlj)
          obtain ⟨m, hm⟩ : ∃ m : Nat, args[j] = m := ⟨args[j].toNat, by omega⟩
          have hmn : m < p.1.length := by omega
          rw [hm] at e1
          have e2 : wi.cell? ⟨w.heap.size + 1, m, none⟩ = some (.int .i64 ((nodeUses p k ++ (args.take j).map Int.toNat).count m : Int)) := by rw [hu2.cell, cntL_at hmn]
          have e3 : wi.frozen? ⟨w.heap.size + 1, m, none⟩ = false := hu2.frozen _
          have hcl : (nodeUses p k ++ (args.take j).map Int.toNat).count m ≤ 3 * k + j := by
            have h1 := count_le (l := nodeUses p k ++ (args.take j).map Int.toNat) m
            have h2 := HUL.out
            rw [List.length_append, List.length_map] at h1
            have h3 : (args.take j).length ≤ j := by rw [List.length_take]; omega
            omega
          have HNX : Hid ((ints (cntL p.1.length (nodeUses p k ++ (args.take j).map Int.toNat))).set m (.int .i64 (((nodeUses p k ++ (args.take j).map Int.toNat).count m : Int) + 1)) = ints (cntL p.1.length (nodeUses p k ++ (args.take (j + 1)).map Int.toNat))) := Lib.hid (by
            rw [cntL_snoc hmn, List.take_succ_eq_append_getElem hlj, List.map_append, ← List.append_assoc]
            simp [hm])
          generalize (nodeUses p k ++ (args.take j).map Int.toNat).count m = q at *
          have hw1 : IntKind.i64.wrap ((q : Int) + 1) = q + 1 := IntWalk.i64_in _ (by omega)
          have i1 : (j : Int) < args.length := by omega
          have i2 : (m : Int) < p.1.length := by omega
          have i3 : (0 : Int) ≤ m := by omega
          clear hcell2 hu2 hin hm
          go_wp2_with fail
          go_roundw
          case rel => exact ⟨j + 1, by omega, by go_num, (by repeat (first | (with_reducible exact HP2.out) | ((with_reducible refine Own.far ?_ ?_ _); rotate_left; (first | omega | (simp <;> omega))) | (with_reducible refine Own.alloc ?_ _) | (with_reducible refine Own.drewN ?_ _) | (with_reducible refine Own.drew ?_) | (with_reducible refine Own.step (by assumption) ?_))), by rw [← HNX.out]; exact Own.set_ HU2.out m _, (by repeat (first | (with_reducible exact Below.refl _ _) | (with_reducible exact HB2.out) | (with_reducible assumption) | ((with_reducible refine Below.alloc ?_ ?_ _); rotate_left; (first | omega | (simp <;> omega))) | ((with_reducible refine Below.setCell ?_ ?_ _); rotate_left; (first | omega | (simp <;> omega))) | (with_reducible refine below_drewN ?_ _) | (with_reducible refine Below.drew ?_) | ((with_reducible refine Below.step (by assumption) ?_ ?_); rotate_left; (first | omega | (simp <;> omega)))))⟩
          case measure => simp [RowKit.intOf]; omega
        · obtain rfl : j = args.length := by omega
          have HUX : Hid (Own wi (w.heap.size + 1) 3 (ints (cntL p.1.length (nodeUses p (k + 1))))) := Lib.hid (by have := HU2.out; rw [List.take_length] at this; rw [nodeUses_succ hlt, HX.out]; exact this)
          clear hu2
          go_wp2_with fail
          go_roundw
          case rel => exact ⟨k + 1, by omega, by go_num, (by repeat (first | (with_reducible exact HP2.out) | ((with_reducible refine Own.far ?_ ?_ _); rotate_left; (first | omega | (simp <;> omega))) | (with_reducible refine Own.alloc ?_ _) | (with_reducible refine Own.drewN ?_ _) | (with_reducible refine Own.drew ?_) | (with_reducible refine Own.step (by assumption) ?_))), HUX.out, (by repeat (first | (with_reducible exact Below.refl _ _) | (with_reducible exact HB2.out) | (with_reducible assumption) | ((with_reducible refine Below.alloc ?_ ?_ _); rotate_left; (first | omega | (simp <;> omega))) | ((with_reducible refine Below.setCell ?_ ?_ _); rotate_left; (first | omega | (simp <;> omega))) | (with_reducible refine below_drewN ?_ _) | (with_reducible refine Below.drew ?_) | ((with_reducible refine Below.step (by assumption) ?_ ?_); rotate_left; (first | omega | (simp <;> omega)))))⟩
          case measure => simp [RowKit.intOf]; omega
    · obtain rfl : k = p.1.length := by omega
      have HUR : Hid (Own wo (w.heap.size + 1) 3 (ints (cntL p.1.length (rootUses p 0)))) := Lib.hid (by unfold rootUses; rw [List.take_zero, List.append_nil, ← nodeUses_all]; exact HU.out)
      go_wp2_with fail
      go_loopw [9, 39] (fun _ i wr => ∃ j : Nat, j ≤ p.2.length ∧ i = .int .i64 j ∧ Own wr (w.heap.size + 1) 3 (ints (cntL p.1.length (rootUses p j))) ∧ Below w.heap.size w wr) (fun _ i _ => p.2.length - (RowKit.intOf i).toNat)
      case atStart => exact ⟨0, Nat.zero_le _, rfl, HUR.out, HB.out⟩
      case round =>
        obtain ⟨j, hj, rfl, hu2, hb2⟩ := hrel
        obtain ⟨wi, rfl⟩ : ∃ wi, wi = wr := ⟨_, rfl⟩
        have hz2 := hb2.size
        have hl2 := hu2.lt
        have HU2 := Lib.hid hu2
        have HB2 := Lib.hid hb2
        clear hb2 HUR
        by_cases hlj : j < p.2.length
        · obtain ⟨b, o, rfl, hbh, hs, x0, x1⟩ := H0.out.2.2.2 j hlj
          have d0 := (HB2.out.cell (p := ⟨b, o + j * 2, none⟩) hbh).trans x0
          have d1 := (HB2.out.cell (p := ⟨b, o + j * 2 + 1, none⟩) hbh).trans x1
          have hok : okAssign p.1.length p.2[j] = true := assignsTo_at HA.out hlj
          unfold okAssign at hok
          simp only [Bool.and_eq_true] at hok
          have hin := inB_true hok.2
          obtain ⟨m, hm⟩ : ∃ m : Nat, p.2[j].2 = m := ⟨p.2[j].2.toNat, by omega⟩
          have hmn : m < p.1.length := by omega
          have HNX : Hid ((ints (cntL p.1.length (rootUses p j))).set m (.int .i64 (((rootUses p j).count m : Int) + 1)) = ints (cntL p.1.length (rootUses p (j + 1)))) := Lib.hid (by rw [cntL_snoc hmn, rootUses_succ hlj, hm]; rfl)
          rw [hm] at d1
          have e2 : wi.cell? ⟨w.heap.size + 1, m, none⟩ = some (.int .i64 ((rootUses p j).count m : Int)) := by rw [hu2.cell, cntL_at hmn]
          have e3 : wi.frozen? ⟨w.heap.size + 1, m, none⟩ = false := hu2.frozen _
          have hcl : (rootUses p j).count m ≤ 3 * p.1.length + j := Nat.le_trans (count_le m) (rootUses_len HN.out j)
          generalize (rootUses p j).count m = q at *
          have hw1 : IntKind.i64.wrap ((q : Int) + 1) = q + 1 := IntWalk.i64_in _ (by omega)
          have i1 : (j : Int) < p.2.length := by omega
          have i2 : (m : Int) < p.1.length := by omega
          have i3 : (0 : Int) ≤ m := by omega
          generalize hnm : p.2[j].1 = nm at *
          clear x0 x1 hok hin hm hu2 hs hnm
          go_wp2_with fail
          go_roundw
          case rel => exact ⟨j + 1, by omega, by go_num, by rw [← HNX.out]; first | exact Own.set_ (by repeat (first | (with_reducible exact HU2.out) | ((with_reducible refine Own.far ?_ ?_ _); rotate_left; (first | omega | (simp <;> omega))) | (with_reducible refine Own.alloc ?_ _) | (with_reducible refine Own.drewN ?_ _) | (with_reducible refine Own.drew ?_) | (with_reducible refine Own.step (by assumption) ?_))) m _ | exact Own.alloc (Own.set_ (by repeat (first | (with_reducible exact HU2.out) | ((with_reducible refine Own.far ?_ ?_ _); rotate_left; (first | omega | (simp <;> omega))) | (with_reducible refine Own.alloc ?_ _) | (with_reducible refine Own.drewN ?_ _) | (with_reducible refine Own.drew ?_) | (with_reducible refine Own.step (by assumption) ?_))) m _) _, (by repeat (first | (with_reducible exact Below.refl _ _) | (with_reducible exact HB2.out) | (with_reducible assumption) | ((with_reducible refine Below.alloc ?_ ?_ _); rotate_left; (first | omega | (simp <;> omega))) | ((with_reducible refine Below.setCell ?_ ?_ _); rotate_left; (first | omega | (simp <;> omega))) | (with_reducible refine below_drewN ?_ _) | (with_reducible refine Below.drew ?_) | ((with_reducible refine Below.step (by assumption) ?_ ?_); rotate_left; (first | omega | (simp <;> omega)))))⟩
          case measure => simp [RowKit.intOf]; omega
        · obtain rfl : j = p.2.length := by omega
          have HUE : Hid (Own wi (w.heap.size + 1) 3 (ints (cntL p.1.length (usesP p)))) := Lib.hid (by rw [← rootUses_all]; exact HU2.out)
          clear hu2
          go_wp2_with fail
          go_ret
          exact ⟨_, rfl, HUE.out, by omega, HB2.out⟩
set_option maxHeartbeats 16000000 in
theorem S_IsValidProgram {A A2 : Option Addr} {c c2 : Nat} {p : EProg} (w : World) (h : ProgIn w A c A2 c2 p) (h1 : p.1.length ≤ 1048576) (h2 : p.2.length ≤ 1048576) :
    Calls Tryz.prog 70 #[vProg A p.1.length c A2 p.2.length c2] w fun e w' => e = .returned (.bool (validP p)) ∧ Below w.heap.size w w' := by
  have H0 := Lib.hid h
  clear h
  have HP0 : Hid (Own (w.alloc (.cells #[.slice A p.1.length c, .slice A2 p.2.length c2] 26)) w.heap.size 26 [.slice A p.1.length c, .slice A2 p.2.length c2]) := Lib.hid (Own.new w _ #[_, _])
  have hwn : IntKind.i64.wrap ((p.1.length : Int) - 1) = (p.1.length : Int) - 1 := IntWalk.i64_in _ (by omega)
  go_enter Tryz.func70, Tryz.ntmps70
  go_wp2_with fail
  go_loopw [3, 4, 12] (fun _ _ i wr => ∃ k : Nat, k ≤ p.1.length ∧ i = .int .i64 k ∧ nodesTo p k = true ∧ Own wr w.heap.size 26 [.slice A p.1.length c, .slice A2 p.2.length c2] ∧ Below w.heap.size w wr) (fun _ _ i _ => p.1.length - (RowKit.intOf i).toNat)
  case atStart => exact ⟨0, Nat.zero_le _, rfl, rfl, HP0.out, (by repeat (first | (with_reducible exact Below.refl _ _) | (with_reducible assumption) | ((with_reducible refine Below.alloc ?_ ?_ _); rotate_left; (first | omega | (simp <;> omega))) | ((with_reducible refine Below.setCell ?_ ?_ _); rotate_left; (first | omega | (simp <;> omega))) | (with_reducible refine below_drewN ?_ _) | (with_reducible refine Below.drew ?_) | ((with_reducible refine Below.step (by assumption) ?_ ?_); rotate_left; (first | omega | (simp <;> omega)))))⟩
  case round =>
    obtain ⟨k, hk, rfl, ht, hp, hb⟩ := hrel
    obtain ⟨wo, rfl⟩ : ∃ wo, wo = wr := ⟨_, rfl⟩
    have hz := hb.size
    have hpl := hp.lt
    have HT := Lib.hid ht
    have HP := Lib.hid hp
    have HB := Lib.hid hb
    have p0 : wo.cell? ⟨w.heap.size, 0, none⟩ = some (.slice A p.1.length c) := hp.cell 0
    have p1 : wo.cell? ⟨w.heap.size, 1, none⟩ = some (.slice A2 p.2.length c2) := hp.cell 1
    clear hp hb HP0 ht
    by_cases hlt : k < p.1.length
    ·
      obtain ⟨b, o, A', c', rfl, hbh, hs, hr, x0, x1, x2, x3⟩ := H0.out.1.2.2 k hlt
      have d0 := (HB.out.cell (p := ⟨b, o + k * 4, none⟩) hbh).trans x0
      have d1 := (HB.out.cell (p := ⟨b, o + k * 4 + 1, none⟩) hbh).trans x1
      have d2 := (HB.out.cell (p := ⟨b, o + k * 4 + 2, none⟩) hbh).trans x2
      have d3 := (HB.out.cell (p := ⟨b, o + k * 4 + 3, none⟩) hbh).trans x3
      clear x0 x1 x2 x3
      obtain ⟨⟨op, name, num, args⟩, hx⟩ : ∃ x, p.1[k] = x := ⟨_, rfl⟩
      rw [hx] at d0 d1 d2 d3 hr hs
      (try dsimp only at d0 d1 d2 d3 hr hs)
      have HX := Lib.hid hx
      have HR := Lib.hid hr
      have HS := Lib.hid hs
      have i0 : (k : Int) < p.1.length := by omega
      have i00 : (0 : Int) ≤ k := by omega
      have HTS := Lib.hid (nodesTo_succ hlt)
      rw [HX.out] at HTS
      have HCN : Hid (∀ wx, Below w.heap.size w wx → Calls Tryz.prog 96 #[vNode op name num A' args.length c', .int .i64 k] wx fun e w' => e = .returned (.bool (okNode k (op, name, num, args))) ∧ Below wx.heap.size wx w') := Lib.hid (fun wx hbx => S_l13Node wx (by omega) HS.out (RS.step hbx HR.out))
      cases hok : okNode k (op, name, num, args) with
      | false =>
        have HF : Hid (validP p = false) := Lib.hid (by rw [validP_def, nodesTo_no hlt (by rw [hx]; exact hok)]; simp)
        rw [hok] at HCN
        clear hx hr hs
        go_wp2_with (first | (go_at_call 96; refine (HCN.out _ (by repeat (first | (with_reducible exact Below.refl _ _) | (with_reducible exact HB.out) | (with_reducible assumption) | ((with_reducible refine Below.alloc ?_ ?_ _); rotate_left; (first | omega | (simp <;> omega))) | ((with_reducible refine Below.setCell ?_ ?_ _); rotate_left; (first | omega | (simp <;> omega))) | (with_reducible refine below_drewN ?_ _) | (with_reducible refine Below.drew ?_) | ((with_reducible refine Below.step (by assumption) ?_ ?_); rotate_left; (first | omega | (simp <;> omega)))))).mono ?_; rintro e w' ⟨rfl, hbx⟩; have hzx := hbx.size; (try simp at hzx); have q0 := hbx.cell (p := ⟨w.heap.size, 0, none⟩) (by simp; omega); have q1 := hbx.cell (p := ⟨w.heap.size, 1, none⟩) (by simp; omega); have HBX := Lib.hid hbx; clear hbx) | fail)
        go_ret
        exact ⟨ret_bool HF.out.symm, Below.step HBX.out (by repeat (first | (with_reducible exact Below.refl _ _) | (with_reducible exact HB.out) | (with_reducible assumption) | ((with_reducible refine Below.alloc ?_ ?_ _); rotate_left; (first | omega | (simp <;> omega))) | ((with_reducible refine Below.setCell ?_ ?_ _); rotate_left; (first | omega | (simp <;> omega))) | (with_reducible refine below_drewN ?_ _) | (with_reducible refine Below.drew ?_) | ((with_reducible refine Below.step (by assumption) ?_ ?_); rotate_left; (first | omega | (simp <;> omega))))) (by simp; omega)⟩
      | true =>
        have HK : Hid (nodesTo p (k + 1) = true) := Lib.hid (by rw [HTS.out, HT.out, hok]; rfl)
        rw [hok] at HCN
        clear hx hr hs
        go_wp2_with (first | (go_at_call 96; refine (HCN.out _ (by repeat (first | (with_reducible exact Below.refl _ _) | (with_reducible exact HB.out) | (with_reducible assumption) | ((with_reducible refine Below.alloc ?_ ?_ _); rotate_left; (first | omega | (simp <;> omega))) | ((with_reducible refine Below.setCell ?_ ?_ _); rotate_left; (first | omega | (simp <;> omega))) | (with_reducible refine below_drewN ?_ _) | (with_reducible refine Below.drew ?_) | ((with_reducible refine Below.step (by assumption) ?_ ?_); rotate_left; (first | omega | (simp <;> omega)))))).mono ?_; rintro e w' ⟨rfl, hbx⟩; have hzx := hbx.size; (try simp at hzx); have HBX := Lib.hid hbx; clear hbx) | fail)
        go_roundw
        case rel => exact ⟨k + 1, by omega, by go_num, HK.out, Own.step HBX.out (by repeat (first | (with_reducible exact HP.out) | ((with_reducible refine Own.far ?_ ?_ _); rotate_left; (first | omega | (simp <;> omega))) | (with_reducible refine Own.alloc ?_ _) | (with_reducible refine Own.drewN ?_ _) | (with_reducible refine Own.drew ?_) | (with_reducible refine Own.step (by assumption) ?_))), Below.step HBX.out (by repeat (first | (with_reducible exact Below.refl _ _) | (with_reducible exact HB.out) | (with_reducible assumption) | ((with_reducible refine Below.alloc ?_ ?_ _); rotate_left; (first | omega | (simp <;> omega))) | ((with_reducible refine Below.setCell ?_ ?_ _); rotate_left; (first | omega | (simp <;> omega))) | (with_reducible refine below_drewN ?_ _) | (with_reducible refine Below.drew ?_) | ((with_reducible refine Below.step (by assumption) ?_ ?_); rotate_left; (first | omega | (simp <;> omega))))) (by simp; omega)⟩
        case measure => simp [RowKit.intOf]; omega
    · obtain rfl : k = p.1.length := by omega
      go_wp2_with fail
      go_loopw [6, 25] (fun _ i wr => ∃ j : Nat, j ≤ p.2.length ∧ i = .int .i64 j ∧ assignsTo p j = true ∧ Own wr w.heap.size 26 [.slice A p.1.length c, .slice A2 p.2.length c2] ∧ Below w.heap.size w wr) (fun _ i _ => p.2.length - (RowKit.intOf i).toNat)
      case atStart => exact ⟨0, Nat.zero_le _, rfl, rfl, HP.out, HB.out⟩
      case round =>
        obtain ⟨j, hj, rfl, ha, hp2, hb2⟩ := hrel
        obtain ⟨wi, rfl⟩ : ∃ wi, wi = wr := ⟨_, rfl⟩
        have hz2 := hb2.size
        have hl2 := hp2.lt
        have HA := Lib.hid ha
        have HP2 := Lib.hid hp2
        have HB2 := Lib.hid hb2
        have q0 : wi.cell? ⟨w.heap.size, 0, none⟩ = some (.slice A p.1.length c) := hp2.cell 0
        have q1 : wi.cell? ⟨w.heap.size, 1, none⟩ = some (.slice A2 p.2.length c2) := hp2.cell 1
        clear hb2 hp2 ha
        by_cases hlj : j < p.2.length
        · obtain ⟨b, o, rfl, hbh, hs, x0, x1⟩ := H0.out.2.2.2 j hlj
          have d0 := (HB2.out.cell (p := ⟨b, o + j * 2, none⟩) hbh).trans x0
          have d1 := (HB2.out.cell (p := ⟨b, o + j * 2 + 1, none⟩) hbh).trans x1
          have HAS := Lib.hid (assignsTo_succ hlj)
          obtain ⟨⟨nm, rt⟩, hx⟩ : ∃ x, p.2[j] = x := ⟨_, rfl⟩
          rw [hx] at d0 d1 hs HAS
          (try dsimp only at d0 d1 hs)
          have HX := Lib.hid hx
          have i1 : (j : Int) < p.2.length := by omega
          have i2 : (0 : Int) ≤ j := by omega
          have HQ : Hid (∀ wx, Calls Tryz.prog 97 #[str nm] wx fun e w' => e = .returned (.bool (isIdent nm)) ∧ wx = w') := Lib.hid (fun wx => S_IsIdentifier wx hs)
          clear x0 x1 hs hx
          have fin : ∀ b : Bool, okAssign p.1.length (nm, rt) = b → (b = false → validP p = false) ∧ (b = true → assignsTo p (j + 1) = true) := fun b hb => ⟨fun e => by rw [validP_def, assignsTo_no hlj (by rw [HX.out, hb, e])]; simp, fun e => by rw [HAS.out, HA.out, hb, e]; rfl⟩
          have FIN := Lib.hid fin
          clear fin
          cases hid : isIdent nm with
          | false =>
            have HF := Lib.hid ((FIN.out false (by unfold okAssign; rw [hid]; rfl)).1 rfl)
            rw [hid] at HQ
            go_wp2_with (first | (go_at_call 97; refine (HQ.out _).mono ?_; rintro e w' ⟨rfl, rfl⟩) | fail)
            (try (go_quiet ((first | (go_at_call 97; exact quiet_same (HQ.out _)) | fail)); go_wp2_with (first | (go_at_call 97; refine (HQ.out _).mono ?_; rintro e w' ⟨rfl, rfl⟩) | fail)))
            go_ret
            exact ⟨ret_bool HF.out.symm, (by repeat (first | (with_reducible exact Below.refl _ _) | (with_reducible exact HB2.out) | (with_reducible assumption) | ((with_reducible refine Below.alloc ?_ ?_ _); rotate_left; (first | omega | (simp <;> omega))) | ((with_reducible refine Below.setCell ?_ ?_ _); rotate_left; (first | omega | (simp <;> omega))) | (with_reducible refine below_drewN ?_ _) | (with_reducible refine Below.drew ?_) | ((with_reducible refine Below.step (by assumption) ?_ ?_); rotate_left; (first | omega | (simp <;> omega)))))⟩
          | true =>
            rw [hid] at HQ
            cases hin : inB rt 0 ((p.1.length : Int) - 1) with
            | false =>
              have HF := Lib.hid ((FIN.out false (by unfold okAssign; rw [hid]; exact hin)).1 rfl)
              go_wp2_with (first | (go_at_call 97; refine (HQ.out _).mono ?_; rintro e w' ⟨rfl, rfl⟩) | (go_at_call 98; refine (S_in_is hin _).mono ?_; rintro e w' ⟨rfl, rfl⟩) | fail)
              (try (go_quiet ((first | (go_at_call 97; exact quiet_same (HQ.out _)) | (go_at_call 98; exact quiet_same (S_in_is hin _)) | fail)); go_wp2_with (first | (go_at_call 97; refine (HQ.out _).mono ?_; rintro e w' ⟨rfl, rfl⟩) | (go_at_call 98; refine (S_in_is hin _).mono ?_; rintro e w' ⟨rfl, rfl⟩) | fail)))
              go_ret
              exact ⟨ret_bool HF.out.symm, (by repeat (first | (with_reducible exact Below.refl _ _) | (with_reducible exact HB2.out) | (with_reducible assumption) | ((with_reducible refine Below.alloc ?_ ?_ _); rotate_left; (first | omega | (simp <;> omega))) | ((with_reducible refine Below.setCell ?_ ?_ _); rotate_left; (first | omega | (simp <;> omega))) | (with_reducible refine below_drewN ?_ _) | (with_reducible refine Below.drew ?_) | ((with_reducible refine Below.step (by assumption) ?_ ?_); rotate_left; (first | omega | (simp <;> omega)))))⟩
            | true =>
              have HF := Lib.hid ((FIN.out true (by unfold okAssign; rw [hid]; exact hin)).2 rfl)
              go_wp2_with (first | (go_at_call 97; refine (HQ.out _).mono ?_; rintro e w' ⟨rfl, rfl⟩) | (go_at_call 98; refine (S_in_is hin _).mono ?_; rintro e w' ⟨rfl, rfl⟩) | fail)
              (try (go_quiet ((first | (go_at_call 97; exact quiet_same (HQ.out _)) | (go_at_call 98; exact quiet_same (S_in_is hin _)) | fail)); go_wp2_with (first | (go_at_call 97; refine (HQ.out _).mono ?_; rintro e w' ⟨rfl, rfl⟩) | (go_at_call 98; refine (S_in_is hin _).mono ?_; rintro e w' ⟨rfl, rfl⟩) | fail)))
              go_roundw
              case rel => exact ⟨j + 1, by omega, by go_num, HF.out, (by repeat (first | (with_reducible exact HP2.out) | ((with_reducible refine Own.far ?_ ?_ _); rotate_left; (first | omega | (simp <;> omega))) | (with_reducible refine Own.alloc ?_ _) | (with_reducible refine Own.drewN ?_ _) | (with_reducible refine Own.drew ?_) | (with_reducible refine Own.step (by assumption) ?_))), (by repeat (first | (with_reducible exact Below.refl _ _) | (with_reducible exact HB2.out) | (with_reducible assumption) | ((with_reducible refine Below.alloc ?_ ?_ _); rotate_left; (first | omega | (simp <;> omega))) | ((with_reducible refine Below.setCell ?_ ?_ _); rotate_left; (first | omega | (simp <;> omega))) | (with_reducible refine below_drewN ?_ _) | (with_reducible refine Below.drew ?_) | ((with_reducible refine Below.step (by assumption) ?_ ?_); rotate_left; (first | omega | (simp <;> omega)))))⟩
              case measure => simp [RowKit.intOf]; omega
        · obtain rfl : j = p.2.length := by omega
          have HU : Hid (Calls Tryz.prog 99 #[vProg A p.1.length c A2 p.2.length c2] wi fun e w' => ∃ g, e = .returned (sl g p.1.length) ∧ Own w' g 3 (ints (cntL p.1.length (usesP p))) ∧ wi.heap.size ≤ g ∧ Below wi.heap.size wi w') := Lib.hid (S_l13Uses _ (H0.out.step HB2.out) HT.out HA.out h1 h2)
          go_wp2_with fail
          refine HU.out.mono ?_
          rintro e w3 ⟨g, rfl, ho, hg, hb3⟩
          have hz3 := hb3.size
          have r0 := (hb3.cell (p := ⟨w.heap.size, 0, none⟩) (by omega)).trans q0
          have HO := Lib.hid ho
          have HB3 : Hid (Below w.heap.size w w3) := Lib.hid (Below.step hb3 HB2.out (by omega))
          have hgl := ho.lt
          clear ho hb3 HU q0 q1 p0 p1
          go_wp2_with fail
          go_loop [8, 47] (fun _ i => ∃ m : Nat, m ≤ p.1.length ∧ i = .int .i64 m ∧ onesTo (usesP p) m = true) (fun _ i => p.1.length - (RowKit.intOf i).toNat)
          case atStart => exact ⟨0, Nat.zero_le _, rfl, rfl⟩
          case round =>
            obtain ⟨m, hm, rfl, hones⟩ := hrel
            have HON := Lib.hid hones
            clear hones
            by_cases hlm : m < p.1.length
            · have e2 : w3.cell? ⟨g, m, none⟩ = some (.int .i64 ((usesP p).count m : Int)) := by rw [HO.out.cell, cntL_at hlm]
              have i1 : (m : Int) < p.1.length := by omega
              have i2 : (0 : Int) ≤ m := by omega
              by_cases hone : (usesP p).count m = 1
              · have HK : Hid (onesTo (usesP p) (m + 1) = true) := Lib.hid (by rw [onesTo_succ, HON.out, hone]; rfl)
                rw [hone] at e2
                go_wp2_with fail
                go_round
                case rel => exact ⟨m + 1, by omega, by go_num, HK.out⟩
                case measure => simp [RowKit.intOf]; omega
              · have HF : Hid (validP p = false) := Lib.hid (by rw [validP_def, onesTo_no hlm hone]; simp)
                generalize (usesP p).count m = q at *
                have hq : ((q : Int) == 1) = false := by simp; omega
                go_wp2_with fail
                go_ret
                exact ⟨ret_bool HF.out.symm, HB3.out⟩
            · obtain rfl : m = p.1.length := by omega
              have HF : Hid (validP p = decide (p.1.length ≤ 60)) := Lib.hid (by rw [validP_def, HT.out, HA.out, HON.out]; simp)
              go_wp2_with fail
              go_ret
              exact ⟨ret_bool (by rw [HF.out, len_le 60]; rfl), HB3.out⟩
end Go.Proofs.YtnlbojckobgjpaaGreatDoor
