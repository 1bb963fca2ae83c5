/- The program's Parse. -/
import Derived.Test.YtnlbojckobgjpaaGreatDoorPriL
import Derived.Test.YtnlbojckobgjpaaGreatDoorTokI
import Derived.Recover
set_option linter.unusedVariables false
set_option linter.unusedSimpArgs false
namespace Go.Proofs.YtnlbojckobgjpaaGreatDoor
open Go.RowKit Go.Lib
set_option maxRecDepth 100000
theorem T.assertNil (w : World) : (Instr.typeAssert .nilIface 20 57 true).run Tryz.prog w = .ok (.tuple #[.agg #[.int .i64 0], .bool false]) w := by kernel_rfl
theorem T.assertRej (o : Int) (w : World) : (Instr.typeAssert (.iface 57 (.agg #[.int .i64 o])) 20 57 true).run Tryz.prog w = .ok (.tuple #[.agg #[.int .i64 o], .bool true]) w := by kernel_rfl
theorem catch_tmps (x y z t a b p : Value) : #[x, y] ++ (((((((Array.replicate 11 undef).setIfInBounds 3 z).setIfInBounds 4 t).setIfInBounds 2 t).setIfInBounds 5 a).setIfInBounds 6 b).setIfInBounds 0 p).setIfInBounds 1 b = #[x, y, p, b, t, z, t, a, b, undef, undef, undef, undef] := by
  rw [show (Array.replicate 11 undef : Array Value) = #[undef, undef, undef, undef, undef, undef, undef, undef, undef, undef, undef] from rfl]
  simp only [List.setIfInBounds_toArray, List.set_cons_zero, List.set_cons_succ, List.append_toArray, List.cons_append, List.nil_append]
set_option maxHeartbeats 2000000 in
theorem I_catchIdle {g h : Nat} (w : World) :
    CallsD Tryz.prog 20 #[.pointer (some ⟨g, 0, none⟩), .pointer (some ⟨h, 0, none⟩)] .returning w fun e u' w' => e = .returned (.tuple #[]) ∧ u' = .returning ∧ w.alloc (.cells #[.int .i64 0] 57) = w' := by
  refine callsD_of_wpS Tryz.func20 rfl fun c₀ cs hu => ?_
  have hta := T.assertNil
  apply wpS_seq
  apply wpS_region
  simp [hta, wpOpsS, go_sem, recoverD, hu, Tryz.ntmps20, Exit.thenS]
  rw [catch_tmps]
  refine wpS_of_wp ?_
  go_wp2_with fail
  cases c₀
  simp_all [bodyPostS, results, Tryz.results20]
set_option maxHeartbeats 2000000 in
theorem I_catch {g h : Nat} {o : Int} (w : World) (c0 c1 c2 : Value) (h0 : w.cell? ⟨g, 0, none⟩ = some c0) (h1 : w.cell? ⟨g, 1, none⟩ = some c1) (h2 : w.cell? ⟨h, 0, none⟩ = some c2) (f0 : ∀ i, w.frozen? ⟨g, i, none⟩ = false) (f2 : ∀ i, w.frozen? ⟨h, i, none⟩ = false) (hgh : g ≠ h) :
    CallsD Tryz.prog 20 #[.pointer (some ⟨g, 0, none⟩), .pointer (some ⟨h, 0, none⟩)] (.panicking (rej o)) w fun e u' w' => e = .returned (.tuple #[]) ∧ u' = .panicking [{ v := .iface 57 (.agg #[.int .i64 o]), recovered := true }] ∧ ((((w.alloc (.cells #[.int .i64 o] 57)).setCell ⟨g, 0, none⟩ (.slice none 0 0)).setCell ⟨g, 1, none⟩ (.slice none 0 0)).setCell ⟨h, 0, none⟩ (.int .i64 o)).drew = w' := by
  refine callsD_of_wpS Tryz.func20 rfl fun c₀ cs hu => ?_
  have hta := T.assertRej o
  apply wpS_seq
  apply wpS_region
  simp [hta, wpOpsS, go_sem, recoverD, hu, Tryz.ntmps20, Exit.thenS]
  rw [catch_tmps]
  refine wpS_of_wp ?_
  have hg : g < w.heap.size := by
    rcases Nat.lt_or_ge g w.heap.size with q | q
    · exact q
    · simp [World.cell?, q] at h0
  have hh : h < w.heap.size := by
    rcases Nat.lt_or_ge h w.heap.size with q | q
    · exact q
    · simp [World.cell?, q] at h2
  have hgh' : ¬ g = h := hgh
  have hhg : ¬ h = g := fun e => hgh e.symm
  go_wp2_with fail
  obtain ⟨u, hu2⟩ : ∃ u, w.alloc (.cells #[.int .i64 o] 57) = u := ⟨_, rfl⟩
  have a0 : u.cell? ⟨g, 0, none⟩ = some c0 := by rw [← hu2, World.cell?_alloc_lt _ _ ⟨g, 0, none⟩ hg]; exact h0
  have a1 : u.cell? ⟨g, 1, none⟩ = some c1 := by rw [← hu2, World.cell?_alloc_lt _ _ ⟨g, 1, none⟩ hg]; exact h1
  have a2 : u.cell? ⟨h, 0, none⟩ = some c2 := by rw [← hu2, World.cell?_alloc_lt _ _ ⟨h, 0, none⟩ hh]; exact h2
  have b0 : ∀ i, u.frozen? ⟨g, i, none⟩ = false := fun i => by rw [← hu2, World.frozen?_alloc_old _ _ ⟨g, i, none⟩ (Nat.ne_of_lt hg)]; exact f0 i
  have b2 : ∀ i, u.frozen? ⟨h, i, none⟩ = false := fun i => by rw [← hu2, World.frozen?_alloc_old _ _ ⟨h, i, none⟩ (Nat.ne_of_lt hh)]; exact f2 i
  have d0 : u.cell? ⟨w.heap.size, 0, none⟩ = some (.int .i64 o) := by rw [← hu2]; simp
  have hz : u.heap.size = w.heap.size + 1 := by rw [← hu2]; simp
  have hgn : ¬ g = w.heap.size := by omega
  have hhn : ¬ h = w.heap.size := by omega
  rw [hu2]
  clear hta
  go_region_held3 (fun w' => w'.cell? ⟨w.heap.size, 0, none⟩ = some (.int .i64 o) ∧ w'.frozen? ⟨g, 0, none⟩ = false ∧ w'.frozen? ⟨g, 1, none⟩ = false ∧ w'.frozen? ⟨h, 0, none⟩ = false)
    (first | ((try dsimp only); refine ⟨?_, ?_, ?_, ?_⟩ <;> (go_simp; done)) | go_keep)
    (fail)
  all_goals
    subst hu2
    exact ⟨rfl, .panicking [{ v := .iface 57 (.agg #[.int .i64 o]), recovered := true }], rfl, .tuple #[], by simp [results, Tryz.results20], rfl, rfl, rfl⟩
set_option maxHeartbeats 4000000 in
theorem I_Parse {src : List UInt8} (w : World) (hs : src.length ≤ 1048576) (hEt : ErrT w) :
    Calls Tryz.prog 7 #[str src] w (OutParse src w) := by
  have hmf : ∀ (fn : Fn) (first cap : Array Value) (w : World), (Instr.makeFunc fn first cap).run Tryz.prog w = .ok (.func fn first cap) w := fun _ _ _ _ => rfl
  have HE := Lib.hid hEt
  have HTK : Hid (∀ wx, Below w.heap.size w wx → Calls Tryz.prog 8 #[str src] wx (OutToks src 74 wx)) := Lib.hid (fun wx hb => I_Tokenize wx hs (HE.out.step hb))
  cases ht : toksF src with
  | error o =>
    have HF := Lib.hid (parF_bad ht)
    have HT2 : Hid (∀ wx, Below w.heap.size w wx → Calls Tryz.prog 8 #[str src] wx fun e w' => e = .returned (.tuple #[.slice none 0 0, .int .i64 o]) ∧ Below wx.heap.size wx w') := Lib.hid (fun wx hb => (HTK.out wx hb).mono (fun e w' h => by unfold OutToks at h; rw [ht] at h; exact h))
    clear HTK ht hEt
    have ho0 : ¬ (o : Int) < 0 := by omega
    go_enter_defers Tryz.func7, Tryz.ntmps7
    go_wp2_with fail
    refine (HT2.out _ (by repeat (first | (with_reducible exact Below.refl _ _) | (with_reducible assumption) | ((with_reducible refine Below.alloc ?_ ?_ _); rotate_left; (first | omega | (simp <;> omega))) | ((with_reducible refine Below.setCell ?_ ?_ _); rotate_left; (first | omega | (simp <;> omega))) | (with_reducible refine below_drewN ?_ _) | (with_reducible refine Below.drew ?_) | ((with_reducible refine Below.step (by assumption) ?_ ?_); rotate_left; (first | omega | (simp <;> omega)))))).mono ?_
    rintro e w1 ⟨rfl, hb1⟩
    have hz1 := hb1.size
    (try simp at hz1)
    have HB1 : Hid (Below w.heap.size w w1) := Lib.hid (Below.step hb1 (by repeat (first | (with_reducible exact Below.refl _ _) | (with_reducible assumption) | ((with_reducible refine Below.alloc ?_ ?_ _); rotate_left; (first | omega | (simp <;> omega))) | ((with_reducible refine Below.setCell ?_ ?_ _); rotate_left; (first | omega | (simp <;> omega))) | (with_reducible refine below_drewN ?_ _) | (with_reducible refine Below.drew ?_) | ((with_reducible refine Below.step (by assumption) ?_ ?_); rotate_left; (first | omega | (simp <;> omega))))) (by first | omega | (simp <;> omega)))
    have HO1 : Hid (Own w1 w.heap.size 26 [.slice none 0 0, .slice none 0 0]) := Lib.hid (Own.step hb1 (Own.alloc (Own.new w 26 #[_, _]) _))
    have HO2 : Hid (Own w1 (w.heap.size + 1) 3 [.int .i64 0]) := Lib.hid (Own.step hb1 (by (with_reducible refine Own.at_new ?_); simp))
    have c0 := HO1.out.cell 0
    have c1 := HO1.out.cell 1
    have cf := HO1.out.frozen
    have d0 := HO2.out.cell 0
    have df := HO2.out.frozen
    (try dsimp only [List.getElem?_cons_succ, List.getElem?_cons_zero] at c0 c1 d0)
    clear hb1
    go_wp2_with fail
    have HO3 : Hid (Own (w1.setCell ⟨w.heap.size + 1, 0, none⟩ (.int .i64 o)) w.heap.size 26 [.slice none 0 0, .slice none 0 0]) := Lib.hid (HO1.out.far (by simp) _)
    have HO4 : Hid (Own (w1.setCell ⟨w.heap.size + 1, 0, none⟩ (.int .i64 o)) (w.heap.size + 1) 3 [.int .i64 o]) := Lib.hid (HO2.out.set_ 0 _)
    have HB3 : Hid (Below w.heap.size w (w1.setCell ⟨w.heap.size + 1, 0, none⟩ (.int .i64 o))) := Lib.hid (by repeat (first | (with_reducible exact Below.refl _ _) | (with_reducible exact HB1.out) | (with_reducible assumption) | ((with_reducible refine Below.alloc ?_ ?_ _); rotate_left; (first | omega | (simp <;> omega))) | ((with_reducible refine Below.setCell ?_ ?_ _); rotate_left; (first | omega | (simp <;> omega))) | (with_reducible refine below_drewN ?_ _) | (with_reducible refine Below.drew ?_) | ((with_reducible refine Below.step (by assumption) ?_ ?_); rotate_left; (first | omega | (simp <;> omega)))))
    clear c0 c1 cf d0 df hz1
    generalize w1.setCell ⟨w.heap.size + 1, 0, none⟩ (.int .i64 o) = u at *
    have c0 := HO3.out.cell 0
    have c1 := HO3.out.cell 1
    have cf := HO3.out.frozen
    have d0 := HO4.out.cell 0
    have df := HO4.out.frozen
    have hz3 := HO4.out.lt
    have hz4 : w.heap.size < u.heap.size := by omega
    (try dsimp only [List.getElem?_cons_succ, List.getElem?_cons_zero] at c0 c1 d0)
    go_region_held3 (fun w' => w'.cell? ⟨w.heap.size + 1, 0, none⟩ = some (.int .i64 o) ∧ w'.frozen? ⟨w.heap.size, 0, none⟩ = false ∧ w'.frozen? ⟨w.heap.size, 1, none⟩ = false ∧ w'.frozen? ⟨w.heap.size + 1, 0, none⟩ = false)
      (first | ((try dsimp only); refine ⟨?_, ?_, ?_, ?_⟩ <;> (go_simp; done)) | go_keep)
      (fail)
    all_goals
      go_wp2_with fail
      refine ⟨.tuple #[.agg #[.slice none 0 0, .slice none 0 0], .int .i64 o], ?_, OutParse.mk_ HF.out rfl rfl (ProgM.nil _ _) (by repeat (first | (with_reducible exact Below.refl _ _) | (with_reducible exact HB3.out) | (with_reducible assumption) | ((with_reducible refine Below.alloc ?_ ?_ _); rotate_left; (first | omega | (simp <;> omega))) | ((with_reducible refine Below.setCell ?_ ?_ _); rotate_left; (first | omega | (simp <;> omega))) | (with_reducible refine below_drewN ?_ _) | (with_reducible refine Below.drew ?_) | ((with_reducible refine Below.step (by assumption) ?_ ?_); rotate_left; (first | omega | (simp <;> omega)))))⟩
      simp [results, Tryz.results7, go_sem, *]
  | ok Ts =>
    have HPF := Lib.hid (parF_ok ht)
    obtain ⟨hk, hl2⟩ := toksF_k ht
    obtain ⟨R, hR⟩ := asg_ends hk.ok (N := fuelT Ts) (Nat.le_refl _) (Ts.length + 1) 0 [] [] hk.ok.pos (by omega)
    have HT2 : Hid (∀ wx, Below w.heap.size w wx → Calls Tryz.prog 8 #[str src] wx fun e w' => ∃ g c, e = .returned (.tuple #[.slice (some ⟨g, 0, none⟩) Ts.length c, .int .i64 (-1)]) ∧ Grow w' wx.heap.size 74 4 (some ⟨g, 0, none⟩) Ts.length c (rTok Ts) ∧ Below wx.heap.size wx w') := Lib.hid (fun wx hb => (HTK.out wx hb).mono (fun e w' h => by
      unfold OutToks at h
      rw [ht] at h
      obtain ⟨A, c, rfl, hg, hb⟩ := h
      rcases hg.shape with ⟨_, h0, _⟩ | ⟨g, cur, rfl, _⟩
      · have := hk.ok.pos; omega
      · exact ⟨g, c, rfl, hg, hb⟩))
    have HAS : Hid (∀ (wx : World) (g tc B : Nat), IpSt wx B (w.heap.size + 2) (some ⟨g, 0, none⟩) tc Ts none 0 [] (List.range (w.heap.size + 2)) 0 0 none 0 [] → Calls Tryz.prog 21 #[.pointer (some ⟨B, 0, none⟩)] wx (AOut B (w.heap.size + 2) (some ⟨g, 0, none⟩) tc Ts (List.range (w.heap.size + 2)) R wx)) := Lib.hid (fun wx g tc B q => I_assignments hk hl2 wx q hR)
    have HR := Lib.hid hR
    have HK := Lib.hid hk
    clear HTK ht hR hEt
    go_enter_defers Tryz.func7, Tryz.ntmps7
    go_wp2_with fail
    refine (HT2.out _ (by repeat (first | (with_reducible exact Below.refl _ _) | (with_reducible assumption) | ((with_reducible refine Below.alloc ?_ ?_ _); rotate_left; (first | omega | (simp <;> omega))) | ((with_reducible refine Below.setCell ?_ ?_ _); rotate_left; (first | omega | (simp <;> omega))) | (with_reducible refine below_drewN ?_ _) | (with_reducible refine Below.drew ?_) | ((with_reducible refine Below.step (by assumption) ?_ ?_); rotate_left; (first | omega | (simp <;> omega)))))).mono ?_
    rintro e w1 ⟨g, tc, rfl, hg1, hb1⟩
    have hz1 := hb1.size
    rw [World.size_alloc, World.size_alloc] at hg1
    (try simp at hz1)
    have HB1 : Hid (Below w.heap.size w w1) := Lib.hid (Below.step hb1 (by repeat (first | (with_reducible exact Below.refl _ _) | (with_reducible assumption) | ((with_reducible refine Below.alloc ?_ ?_ _); rotate_left; (first | omega | (simp <;> omega))) | ((with_reducible refine Below.setCell ?_ ?_ _); rotate_left; (first | omega | (simp <;> omega))) | (with_reducible refine below_drewN ?_ _) | (with_reducible refine Below.drew ?_) | ((with_reducible refine Below.step (by assumption) ?_ ?_); rotate_left; (first | omega | (simp <;> omega))))) (by first | omega | (simp <;> omega)))
    have HO1 : Hid (Own w1 w.heap.size 26 [.slice none 0 0, .slice none 0 0]) := Lib.hid (Own.step hb1 (Own.alloc (Own.new w 26 #[_, _]) _))
    have HO2 : Hid (Own w1 (w.heap.size + 1) 3 [.int .i64 0]) := Lib.hid (Own.step hb1 (by (with_reducible refine Own.at_new ?_); simp))
    have HG1 := Lib.hid hg1
    clear hb1 hg1
    have HO3 : Hid (Own (w1.setCell ⟨w.heap.size + 1, 0, none⟩ (.int .i64 (-1))) w.heap.size 26 [.slice none 0 0, .slice none 0 0]) := Lib.hid (HO1.out.far (by simp) _)
    have HO4 : Hid (Own (w1.setCell ⟨w.heap.size + 1, 0, none⟩ (.int .i64 (-1))) (w.heap.size + 1) 3 [.int .i64 (-1)]) := Lib.hid (HO2.out.set_ 0 _)
    have HB3 : Hid (Below w.heap.size w (w1.setCell ⟨w.heap.size + 1, 0, none⟩ (.int .i64 (-1)))) := Lib.hid (by repeat (first | (with_reducible exact Below.refl _ _) | (with_reducible exact HB1.out) | (with_reducible assumption) | ((with_reducible refine Below.alloc ?_ ?_ _); rotate_left; (first | omega | (simp <;> omega))) | ((with_reducible refine Below.setCell ?_ ?_ _); rotate_left; (first | omega | (simp <;> omega))) | (with_reducible refine below_drewN ?_ _) | (with_reducible refine Below.drew ?_) | ((with_reducible refine Below.step (by assumption) ?_ ?_); rotate_left; (first | omega | (simp <;> omega)))))
    have HG3 : Hid (Grow (w1.setCell ⟨w.heap.size + 1, 0, none⟩ (.int .i64 (-1))) (w.heap.size + 2) 74 4 (some ⟨g, 0, none⟩) Ts.length tc (rTok Ts)) := Lib.hid (HG1.out.far (by simp) _)
    have c0 := HO1.out.cell 0
    have d0 := HO2.out.cell 0
    have df := HO2.out.frozen
    (try dsimp only [List.getElem?_cons_succ, List.getElem?_cons_zero] at c0 d0)
    have hs3 : (w1.setCell ⟨w.heap.size + 1, 0, none⟩ (.int .i64 (-1))).heap.size = w1.heap.size := by simp [World.setCell]
    obtain ⟨u, hu⟩ : ∃ u, w1.setCell ⟨w.heap.size + 1, 0, none⟩ (.int .i64 (-1)) = u := ⟨_, rfl⟩
    rw [hu] at HO3 HO4 HB3 HG3 hs3
    have x0 := HO4.out.cell 0
    have xf := HO4.out.frozen
    (try dsimp only [List.getElem?_cons_succ, List.getElem?_cons_zero] at x0)
    have HIP : Hid (IpSt (u.alloc (.cells #[.slice (some ⟨g, 0, none⟩) Ts.length tc, .int .i64 0, .int .i64 0, .slice none 0 0, .slice none 0 0] 61)) w1.heap.size (w.heap.size + 2) (some ⟨g, 0, none⟩) tc Ts none 0 [] (List.range (w.heap.size + 2)) 0 0 none 0 []) := Lib.hid (by
      have hTl : ∀ x, x ∈ gOf (some (⟨g, 0, none⟩ : Addr)) → w.heap.size + 2 ≤ x ∧ x < w1.heap.size := fun x hx => ⟨HG3.out.ge x hx, by have := HG3.out.lt x hx; omega⟩
      refine ⟨Own.at_new (cs := #[_, _, _, _, _]) hs3.symm, ⟨(HG3.out.alloc _).rs, Grow.nil _ _ _ _, ⟨[], Grow.nil _ _ _ _, NodesC.nil _ _ _, ApartC.nil _⟩, fun x hx => ⟨?_, by simp [gOf], by simp [gOf], ?_⟩, fun x hx => by simp [gOf] at hx, fun x hx => by simp [gOf] at hx, ?_, ?_, fun x hx => ?_, fun x hx => ?_, by simp⟩⟩
      · have := hTl x hx; omega
      · have := hTl x hx; simp; omega
      · simp; omega
      · simp; omega
      · have := hTl x hx; simp; omega
      · simp at hx ⊢; omega)
    have HO3' : Hid (Own (u.alloc (.cells #[.slice (some ⟨g, 0, none⟩) Ts.length tc, .int .i64 0, .int .i64 0, .slice none 0 0, .slice none 0 0] 61)) w.heap.size 26 [.slice none 0 0, .slice none 0 0]) := Lib.hid (HO3.out.alloc _)
    have HO4' : Hid (Own (u.alloc (.cells #[.slice (some ⟨g, 0, none⟩) Ts.length tc, .int .i64 0, .int .i64 0, .slice none 0 0, .slice none 0 0] 61)) (w.heap.size + 1) 3 [.int .i64 (-1)]) := Lib.hid (HO4.out.alloc _)
    have HB3' : Hid (Below w.heap.size w (u.alloc (.cells #[.slice (some ⟨g, 0, none⟩) Ts.length tc, .int .i64 0, .int .i64 0, .slice none 0 0, .slice none 0 0] 61))) := Lib.hid (Below.alloc HB3.out HB3.out.size _)
    have HA := Lib.hid (HAS.out _ _ _ _ HIP.out)
    go_wp2_with fail
    clear hu
    cases R with
    | error o =>
      refine HA.out.mono ?_
      rintro e u1 ⟨hO, rfl, hd⟩
      have HO5 := Lib.hid (hO.own HO3'.out HO3'.out.lt (by simp; omega))
      have HO6 := Lib.hid (hO.own HO4'.out HO4'.out.lt (by simp; omega))
      have HB5 : Hid (Below w.heap.size w u1) := Lib.hid (below_only HB3'.out hO (fun y hy => by simp at hy; omega))
      have HF : Hid (parF src = (([], []), o)) := Lib.hid (by rw [HPF.out]; exact parT_no HR.out)
      clear hO hd
      go_wp2_with fail
      refine leaves_cons (f := 20) (args := #[.pointer (some ⟨w.heap.size, 0, none⟩), .pointer (some ⟨w.heap.size + 1, 0, none⟩)]) (by simp) (by have hf := Tryz.func20; simp [go_sem, hf]) ?_
      refine (I_catch u1 _ _ _ (HO5.out.cell 0) (HO5.out.cell 1) (HO6.out.cell 0) HO5.out.frozen HO6.out.frozen (by omega)).mono ?_
      rintro e m w' ⟨rfl, rfl, hw'⟩
      have k0 := Own.drew (Own.far (Own.set_ (Own.set_ (HO5.out.alloc (.cells #[.int .i64 o] 57)) 0 (.slice none 0 0)) 1 (.slice none 0 0)) (p := ⟨w.heap.size + 1, 0, none⟩) (by simp) (.int .i64 o))
      have k2 := Own.drew (Own.set_ (Own.far (Own.far (HO6.out.alloc (.cells #[.int .i64 o] 57)) (p := ⟨w.heap.size, 0, none⟩) (by simp) (.slice none 0 0)) (p := ⟨w.heap.size, 1, none⟩) (by simp) (.slice none 0 0)) 0 (.int .i64 o))
      rw [hw'] at k0 k2
      have hz5 := HB5.out.size
      have HBF : Below w.heap.size w w' := by rw [← hw']; exact (by repeat (first | (with_reducible exact Below.refl _ _) | (with_reducible exact HB5.out) | (with_reducible assumption) | ((with_reducible refine Below.alloc ?_ ?_ _); rotate_left; (first | omega | (simp <;> omega))) | ((with_reducible refine Below.setCell ?_ ?_ _); rotate_left; (first | omega | (simp <;> omega))) | (with_reducible refine below_drewN ?_ _) | (with_reducible refine Below.drew ?_) | ((with_reducible refine Below.step (by assumption) ?_ ?_); rotate_left; (first | omega | (simp <;> omega)))))
      have y0 := k0.cell 0
      have y1 := k0.cell 1
      have y2 := k2.cell 0
      (try simp at y0 y1 y2)
      refine ⟨.tuple #[.agg #[.slice none 0 0, .slice none 0 0], .int .i64 o], ?_, OutParse.mk_ HF.out rfl rfl (ProgM.nil _ _) HBF⟩
      simp [results, Tryz.results7, go_sem, y0, y1, y2]
    | ok p =>
      refine HA.out.mono ?_
      rintro e u1 ⟨hO, AA, ac, a, NA, nc, rfl, hip, hal⟩
      have HO5 := Lib.hid (hO.own HO3'.out HO3'.out.lt (by simp; omega))
      have HO6 := Lib.hid (hO.own HO4'.out HO4'.out.lt (by simp; omega))
      have HB5 : Hid (Below w.heap.size w u1) := Lib.hid (below_only HB3'.out hO (fun y hy => by simp at hy; omega))
      have HF : Hid (parF src = (p, -1)) := Lib.hid (by rw [HPF.out]; exact parT_yes HR.out)
      have HP1 := Lib.hid hip
      obtain ⟨zB, _, _, _, z3, z4, _⟩ := hip.cells
      have y0 := HO5.out.cell 0
      have y1 := HO5.out.cell 1
      have yf := HO5.out.frozen
      have yz := HO5.out.lt
      have v0 := HO6.out.cell 0
      have vf := HO6.out.frozen
      have vz := HO6.out.lt
      (try dsimp only [List.getElem?_cons_succ, List.getElem?_cons_zero] at y0 y1 v0)
      clear hO hip
      go_wp2_with fail
      have k0 := Own.far (Own.set_ (Own.set_ HO5.out 0 (.slice NA p.1.length nc)) 1 (.slice AA p.2.length ac)) (p := ⟨w.heap.size + 1, 0, none⟩) (by simp) (.int .i64 (-1))
      have k2 := Own.set_ (Own.far (Own.far HO6.out (p := ⟨w.heap.size, 0, none⟩) (by simp) (.slice NA p.1.length nc)) (p := ⟨w.heap.size, 1, none⟩) (by simp) (.slice AA p.2.length ac)) 0 (.int .i64 (-1))
      refine leaves_cons (f := 20) (args := #[.pointer (some ⟨w.heap.size, 0, none⟩), .pointer (some ⟨w.heap.size + 1, 0, none⟩)]) (by simp) (by have hf := Tryz.func20; simp [go_sem, hf]) ?_
      refine (I_catchIdle _).mono ?_
      rintro e m w' ⟨rfl, rfl, hw'⟩
      have k0' := k0.alloc (.cells #[.int .i64 0] 57)
      have k2' := k2.alloc (.cells #[.int .i64 0] 57)
      rw [hw'] at k0' k2'
      have hz5 := HB5.out.size
      have HBF : Below w.heap.size w w' := by rw [← hw']; exact (by repeat (first | (with_reducible exact Below.refl _ _) | (with_reducible exact HB5.out) | (with_reducible assumption) | ((with_reducible refine Below.alloc ?_ ?_ _); rotate_left; (first | omega | (simp <;> omega))) | ((with_reducible refine Below.setCell ?_ ?_ _); rotate_left; (first | omega | (simp <;> omega))) | (with_reducible refine below_drewN ?_ _) | (with_reducible refine Below.drew ?_) | ((with_reducible refine Below.step (by assumption) ?_ ?_); rotate_left; (first | omega | (simp <;> omega)))))
      have hPM : ProgM w' w.heap.size NA nc p.1 AA ac p.2 := by
        refine ProgM.mono (PMem.progM (base := w.heap.size + 2) (B := w1.heap.size) (TA := some ⟨g, 0, none⟩) (tc := tc) (T := Ts) (HP1.out.2.keepX ?_ (fun z h1 h2 h3 => ?_)) (by omega)) (by omega)
        · rw [← hw']; simp [World.setCell]
        · have hz : z ≠ w.heap.size ∧ z ≠ w.heap.size + 1 := by simp at h2; omega
          rw [← hw', Below.heap_alloc _ _ _ (by simpa [World.setCell] using h3), Below.heap_setCell _ _ _ _ (by exact hz.2), Below.heap_setCell _ _ _ _ (by exact hz.1), Below.heap_setCell _ _ _ _ (by exact hz.1)]
      have x0 := k0'.cell 0
      have x1 := k0'.cell 1
      have x2 := k2'.cell 0
      (try simp at x0 x1 x2)
      refine ⟨.tuple #[.agg #[.slice NA p.1.length nc, .slice AA p.2.length ac], .int .i64 (-1)], ?_, OutParse.mk_ HF.out rfl rfl hPM HBF⟩
      simp [results, Tryz.results7, go_sem, x0, x1, x2]
end Go.Proofs.YtnlbojckobgjpaaGreatDoor
