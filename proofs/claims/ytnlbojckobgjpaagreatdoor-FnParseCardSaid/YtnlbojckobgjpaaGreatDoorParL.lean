/- The reference's Parse. -/
import Derived.Test.YtnlbojckobgjpaaGreatDoorParF
set_option linter.unusedVariables false
set_option linter.unusedSimpArgs false
namespace Go.Proofs.YtnlbojckobgjpaaGreatDoor
open Go.RowKit Go.Lib
set_option maxRecDepth 100000
/-- The offsets of tokens. -/
theorem tokz_off {src : List UInt8} : ∀ (n a : Nat) (l r : List ETok), (∀ x ∈ l, (0 : Int) ≤ x.2.2.2) → tokz src n a l = .ok r → ∀ x ∈ r, (0 : Int) ≤ x.2.2.2 :=
  fun n a l r hl h => tokz_all (Pt := fun x => (0 : Int) ≤ x.2.2.2) (fun a k m v _ => by show (0 : Int) ≤ (a : Int); omega) n a l r hl h
theorem tokz_len {src : List UInt8} : ∀ (n a : Nat) (l r : List ETok), tokz src n a l = .ok r → l.length ≤ a → a ≤ src.length → r.length ≤ src.length := by
  intro n
  induction n with
  | zero => intro a l r h hl ha; injection h with h; subst h; omega
  | succ n ih =>
    intro a l r h hl ha
    rcases Nat.lt_or_ge a src.length with hlt | hge
    · have hb := List.getElem?_eq_getElem hlt
      cases hsp : isSp src[a] with
      | true => rw [tokz_space hb hsp] at h; exact ih _ _ _ h (by omega) (by omega)
      | false =>
        cases hk : scanTok (src.drop a) with
        | none => rw [tokz_bad hb hsp hk] at h; cases h
        | some x =>
          obtain ⟨k, m, v⟩ := x
          rw [tokz_tok hb hsp hk] at h
          have := scanTok_len hk
          rw [List.length_drop] at this
          exact ih _ _ _ h (by simp; omega) (by omega)
    · rw [tokz_end hge] at h; injection h with h; subst h; omega
theorem toksF_k {src : List UInt8} {T : List ETok} (h : toksF src = .ok T) : TokK T ∧ T.length ≤ 2001 := by
  have h0 := toksF_ok h
  unfold toksF at h
  split at h
  · cases h
  · rename_i hlen
    cases hz : tokz src (src.length + 1) 0 [] with
    | error o => rw [hz] at h; cases h
    | ok r =>
      rw [hz] at h
      have h2 : r ++ [(0, [], 0, (src.length : Int))] = T := by injection h
      subst h2
      have h3 := tokz_off _ _ _ _ (by simp) hz
      have h4 := tokz_len _ _ _ _ hz (by simp) (Nat.zero_le _)
      refine ⟨⟨h0, fun i => ?_, by simp; omega⟩, by simp; omega⟩
      unfold of_ tk
      rcases Nat.lt_or_ge i (r ++ [((0 : Int), ([] : List UInt8), (0 : Int), (src.length : Int))]).length with hi | hi
      · have hm := List.getElem_mem hi
        rw [List.getD_eq_getElem?_getD, List.getElem?_eq_getElem hi]
        rcases List.mem_append.1 hm with hm | hm
        · exact h3 _ hm
        · rw [List.mem_singleton.1 hm]; show (0 : Int) ≤ _; simp
      · rw [List.getD_eq_getElem?_getD, List.getElem?_eq_none hi]; exact Int.le_refl _
theorem parF_bad {src : List UInt8} {o : Nat} (h : toksF src = .error o) : parF src = (([], []), (o : Int)) := by unfold parF; rw [h]
theorem parF_ok {src : List UInt8} {T : List ETok} (h : toksF src = .ok T) : parF src = parT T := by unfold parF; rw [h]
theorem parT_yes {T : List ETok} {p : EProg} (h : asg T (fuelT T) (T.length + 1) 0 [] [] = some (.ok p)) : parT T = (p, -1) := by unfold parT; rw [h]
theorem parT_no {T : List ETok} {o : Int} (h : asg T (fuelT T) (T.length + 1) 0 [] [] = some (.error o)) : parT T = (([], []), o) := by unfold parT; rw [h]
theorem asg_end {T : List ETok} {N n a : Nat} {ns : List ENode} {l : List EAssign} (h : kd T a = 0) : asg T N (n + 1) a ns l = some (.ok (ns, l)) := by rw [asg, if_pos h]
theorem asg_kind {T : List ETok} {N n a : Nat} {ns : List ENode} {l : List EAssign} (h : kd T a ≠ 0) (h2 : kd T a ≠ 2) : asg T N (n + 1) a ns l = some (.error (of_ T a)) := by rw [asg, if_neg h, if_pos h2]
theorem asg_eq {T : List ETok} {N n a : Nat} {ns : List ENode} {l : List EAssign} (h : kd T a = 2) (h2 : pk T (a + 1) ≠ [61]) : asg T N (n + 1) a ns l = some (.error (of_ T (a + 1))) := by rw [asg, if_neg (by rw [h]; decide), if_neg (fun q => q h), if_pos h2]
theorem asg_bad {T : List ETok} {N n a : Nat} {ns : List ENode} {l : List EAssign} {o : Int} (h : kd T a = 2) (h2 : pk T (a + 1) = [61]) (hr : prs T N (.bin true) 1 (a + 2) ns = .bad o) : asg T N (n + 1) a ns l = some (.error o) := by rw [asg, if_neg (by rw [h]; decide), if_neg (fun q => q h), if_neg (fun q => q h2), hr]
theorem asg_semi {T : List ETok} {N n a a1 : Nat} {ns n1 : List ENode} {l : List EAssign} {v : Int} (h : kd T a = 2) (h2 : pk T (a + 1) = [61]) (hr : prs T N (.bin true) 1 (a + 2) ns = .ok v a1 n1) (hp : pk T a1 ≠ [59]) : asg T N (n + 1) a ns l = some (.error (of_ T a1)) := by rw [asg, if_neg (by rw [h]; decide), if_neg (fun q => q h), if_neg (fun q => q h2), hr]; simp only [if_neg hp]
theorem asg_next {T : List ETok} {N n a a1 : Nat} {ns n1 : List ENode} {l : List EAssign} {v : Int} (h : kd T a = 2) (h2 : pk T (a + 1) = [61]) (hr : prs T N (.bin true) 1 (a + 2) ns = .ok v a1 n1) (hp : pk T a1 = [59]) : asg T N (n + 1) a ns l = asg T N n (a1 + 1) n1 (l ++ [(tx T a, v)]) := by rw [asg, if_neg (by rw [h]; decide), if_neg (fun q => q h), if_neg (fun q => q h2), hr]; simp only [if_pos hp]
theorem below_only {w u v : World} {G : List Nat} (h : Below w.heap.size w u) (k : Only u.heap.size G u v) (hG : ∀ x, x ∈ G → w.heap.size ≤ x) : Below w.heap.size w v :=
  ⟨k.os.trans h.os, k.tape.trans h.tape, k.output.trans h.output, Nat.le_trans h.size k.size, fun b hb => (k.block b (Nat.lt_of_lt_of_le hb h.size) (fun q => by have := hG b q; omega)).trans (h.block b hb)⟩
/-- What the loop over the assignments keeps. -/
def AsgInv (B base : Nat) (TA : Option Addr) (tc : Nat) (Ts : List ETok) (R : Except Int EProg) (w : World) (k : Nat) (wr : World) : Prop :=
  ∃ (AA : Option Addr) (ac : Nat) (as_ : List EAssign) (a : Nat) (NA : Option Addr) (nc : Nat) (ns : List ENode) (f : Nat), SpSt wr B base TA tc Ts AA ac as_ (List.range base) a NA nc ns (-1) ∧ a < Ts.length ∧ f ≤ k ∧ Ts.length - a < f ∧ asg Ts (fuelT Ts) f a ns as_ = some R ∧ as_.length ≤ a ∧
    Own wr w.heap.size 26 [.slice none 0 0, .slice none 0 0] ∧ Below w.heap.size w wr
set_option maxHeartbeats 16000000 in
theorem S_Parse {src : List UInt8} (w : World) (hs : src.length ≤ 1048576) :
    Calls Tryz.prog 12 #[str src] w (OutParse src w) := by
  have HTK : Hid (∀ wx, Calls Tryz.prog 27 #[str src] wx (OutToks src 74 wx)) := Lib.hid (fun wx => S_Tokenize wx hs)
  cases ht : toksF src with
  | error o =>
    have HF := Lib.hid (parF_bad ht)
    have HT2 : Hid (∀ wx, Calls Tryz.prog 27 #[str src] wx fun e w' => e = .returned (.tuple #[.slice none 0 0, .int .i64 o]) ∧ Below wx.heap.size wx w') := Lib.hid (fun wx => (HTK.out wx).mono (fun e w' h => by unfold OutToks at h; rw [ht] at h; exact h))
    clear HTK ht
    go_enter Tryz.func12, Tryz.ntmps12
    go_wp2_with fail
    refine (HT2.out _).mono ?_
    rintro e w1 ⟨rfl, hb1⟩
    have hz1 := hb1.size
    (try simp at hz1)
    have HB1 : Hid (Below w.heap.size w w1) := Lib.hid (Below.step hb1 (by repeat (first | (with_reducible exact Below.refl _ _) | (with_reducible assumption) | ((with_reducible refine Below.alloc ?_ ?_ _); rotate_left; (first | omega | (simp <;> omega))) | ((with_reducible refine Below.setCell ?_ ?_ _); rotate_left; (first | omega | (simp <;> omega))) | (with_reducible refine below_drewN ?_ _) | (with_reducible refine Below.drew ?_) | ((with_reducible refine Below.step (by assumption) ?_ ?_); rotate_left; (first | omega | (simp <;> omega))))) (by first | omega | (simp <;> omega)))
    have HO1 : Hid (Own w1 w.heap.size 26 [.slice none 0 0, .slice none 0 0]) := Lib.hid (Own.step hb1 (Own.new w 26 #[_, _]))
    have c0 := HO1.out.cell 0
    have c1 := HO1.out.cell 1
    have cf := HO1.out.frozen
    (try dsimp only [List.getElem?_cons_succ, List.getElem?_cons_zero] at c0 c1)
    clear hb1
    go_wp2_with fail
    exact bodyPost_ret (v := .tuple #[.agg #[.slice none 0 0, .slice none 0 0], .int .i64 o]) (by simp [results, Tryz.results12, go_sem, *]) rfl (OutParse.mk_ HF.out rfl rfl (ProgM.nil _ _) (by repeat (first | (with_reducible exact Below.refl _ _) | (with_reducible exact HB1.out) | (with_reducible assumption) | ((with_reducible refine Below.alloc ?_ ?_ _); rotate_left; (first | omega | (simp <;> omega))) | ((with_reducible refine Below.setCell ?_ ?_ _); rotate_left; (first | omega | (simp <;> omega))) | (with_reducible refine below_drewN ?_ _) | (with_reducible refine Below.drew ?_) | ((with_reducible refine Below.step (by assumption) ?_ ?_); rotate_left; (first | omega | (simp <;> omega))))))
  | ok Ts =>
    have HPF := Lib.hid (parF_ok ht)
    obtain ⟨hk, hl2⟩ := toksF_k ht
    obtain ⟨R, hR⟩ := asg_ends hk.ok (N := fuelT Ts) (Nat.le_refl _) (Ts.length + 1) 0 [] [] hk.ok.pos (by omega)
    have HR := Lib.hid hR
    have HT2 : Hid (∀ wx, Calls Tryz.prog 27 #[str src] wx fun e w' => ∃ g c, e = .returned (.tuple #[.slice (some ⟨g, 0, none⟩) Ts.length c, .int .i64 (-1)]) ∧ Grow w' wx.heap.size 74 4 (some ⟨g, 0, none⟩) Ts.length c (rTok Ts) ∧ Below wx.heap.size wx w') := Lib.hid (fun wx => (HTK.out wx).mono (fun e w' h => by
      unfold OutToks at h
      rw [ht] at h
      obtain ⟨A, c, rfl, hg, hb⟩ := h
      rcases hg.shape with ⟨_, h0, _⟩ | ⟨g, cur, rfl, _⟩
      · have := hk.ok.pos; omega
      · exact ⟨g, c, rfl, hg, hb⟩))
    clear HTK ht hR
    go_enter Tryz.func12, Tryz.ntmps12
    go_wp2_with fail
    refine (HT2.out _).mono ?_
    rintro e w1 ⟨g, tc, rfl, hg1, hb1⟩
    have hz1 := hb1.size
    rw [World.size_alloc] at hg1
    (try simp at hz1)
    have HB1 : Hid (Below w.heap.size w w1) := Lib.hid (Below.step hb1 (by repeat (first | (with_reducible exact Below.refl _ _) | (with_reducible assumption) | ((with_reducible refine Below.alloc ?_ ?_ _); rotate_left; (first | omega | (simp <;> omega))) | ((with_reducible refine Below.setCell ?_ ?_ _); rotate_left; (first | omega | (simp <;> omega))) | (with_reducible refine below_drewN ?_ _) | (with_reducible refine Below.drew ?_) | ((with_reducible refine Below.step (by assumption) ?_ ?_); rotate_left; (first | omega | (simp <;> omega))))) (by first | omega | (simp <;> omega)))
    have HX1 : Hid (Own w1 w.heap.size 26 [.slice none 0 0, .slice none 0 0]) := Lib.hid (Own.step hb1 (Own.new w 26 #[_, _]))
    have HG1 := Lib.hid hg1
    clear hb1 hg1
    have HIV : Hid (AsgInv w1.heap.size (w.heap.size + 1) (some ⟨g, 0, none⟩) tc Ts R w (Ts.length + 1) (w1.alloc (.cells #[.slice (some ⟨g, 0, none⟩) Ts.length tc, .int .i64 0, .slice none 0 0, .slice none 0 0, .int .i64 (-1)] 77))) := Lib.hid ⟨none, 0, [], 0, none, 0, [], Ts.length + 1, ⟨Own.new w1 77 #[_, _, _, _, _], ⟨(HG1.out.alloc _).rs, Grow.nil _ _ _ _, ⟨[], Grow.nil _ _ _ _, NodesC.nil _ _ _, ApartC.nil _⟩, fun x hx => ⟨by have := HG1.out.lt x hx; omega, by simp [gOf], by simp [gOf], by have := HG1.out.ge x hx; simp; omega⟩, fun x hx => by simp [gOf] at hx, fun x hx => by simp [gOf] at hx, by simp; omega, by simp, fun x hx => by have := HG1.out.lt x hx; simp; omega, fun x hx => by simp at hx ⊢; omega, by simp⟩⟩, hk.ok.pos, Nat.le_refl _, by omega, HR.out, by simp, HX1.out.alloc _, (by repeat (first | (with_reducible exact Below.refl _ _) | (with_reducible exact HB1.out) | (with_reducible assumption) | ((with_reducible refine Below.alloc ?_ ?_ _); rotate_left; (first | omega | (simp <;> omega))) | ((with_reducible refine Below.setCell ?_ ?_ _); rotate_left; (first | omega | (simp <;> omega))) | (with_reducible refine below_drewN ?_ _) | (with_reducible refine Below.drew ?_) | ((with_reducible refine Below.step (by assumption) ?_ ?_); rotate_left; (first | omega | (simp <;> omega)))))⟩
    have HK := Lib.hid hk
    clear hk
    go_wp2_with fail
    generalize hBd : w1.heap.size = B at *
    have hwB : w.heap.size + 1 ≤ B := hz1
    clear hBd
    go_loopg [7, 8] (Ts.length + 1) (fun gg _ _ wr => AsgInv B (w.heap.size + 1) (some ⟨g, 0, none⟩) tc Ts R w gg wr)
    case atStart => exact HIV.out
    case round =>
      -- ROUND
      obtain ⟨AA, ac, as_, a, NA, nc, ns, f, hst, ha, hf1, hf2, hR, hal, hbx, hbl⟩ := hrel
      obtain ⟨wo, rfl⟩ : ∃ wo, wo = wr := ⟨_, rfl⟩
      obtain ⟨f', rfl⟩ : ∃ f', f = f' + 1 := ⟨f - 1, by omega⟩
      obtain ⟨hB, c0, c1, _, _, c4, cf⟩ := hst.cells
      obtain ⟨ht1, ht2, b, o, hTA, hb, hbB, t0, t1, t2, t3⟩ := hst.2.tokAt ha
      simp only [Option.some.injEq, Addr.mk.injEq, and_true] at hTA
      obtain ⟨rfl, rfl⟩ := hTA
      rw [Nat.zero_add] at t0 t1 t2 t3
      unfold maxLen at ht2
      have ha' : (a : Int) < Ts.length := by omega
      have hbz := hbl.size
      have hbP := hbx.lt
      have HS := Lib.hid hst
      have HX := Lib.hid hbx
      have HB := Lib.hid hbl
      have HRA := Lib.hid hR
      have hw1 : w.heap.size ≠ B := by omega
      have hwB' := hwB
      have HPB : Hid (w.heap.size ≠ B) := Lib.hid hw1
      have hlen := HK.out.len
      clear hst hbx hbl HIV hR hw1
      obtain ⟨k, hk⟩ : ∃ k, kd Ts a = k := ⟨_, rfl⟩
      have HKD := Lib.hid hk
      obtain ⟨x, hx⟩ : ∃ x, tx Ts a = x := ⟨_, rfl⟩
      obtain ⟨m, hm⟩ : ∃ m, nm Ts a = m := ⟨_, rfl⟩
      obtain ⟨q, hq⟩ : ∃ q, of_ Ts a = q := ⟨_, rfl⟩
      rw [hk] at t0
      rw [hx] at t1
      rw [hm] at t2
      rw [hq] at t3
      have HXE := Lib.hid hx
      have HME := Lib.hid hm
      have HQE := Lib.hid hq
      clear hk hx hm hq
      by_cases k0 : k = 0
      · subst k0
        have hRR : R = .ok (ns, as_) := by
          have := HRA.out
          rw [asg_end HKD.out] at this
          injection this with this
          exact this.symm
        have HF : Hid (parF src = ((ns, as_), -1)) := Lib.hid (by rw [HPF.out]; exact parT_yes (by rw [HR.out, hRR]))
        have hasl : as_.length ≤ 1048576 := by omega
        clear hRR HRA
        have hPB := HPB.out
        have hBP : ¬ B = w.heap.size := fun e => HPB.out e.symm
        go_wp2_with fail
        go_quiet (fail)
        have HSq : Hid (SpSt (wo.drewN nq) B (w.heap.size + 1) (some ⟨g, 0, none⟩) tc Ts AA ac as_ (List.range (w.heap.size + 1)) a NA nc ns (-1)) := Lib.hid (HS.out.drewN nq)
        have HXq : Hid (Own (wo.drewN nq) w.heap.size 26 [.slice none 0 0, .slice none 0 0]) := Lib.hid (HX.out.drewN nq)
        have HBq : Hid (Below w.heap.size w (wo.drewN nq)) := Lib.hid (below_drewN HB.out nq)
        clear HS HX HB c0 c1 c4 cf t0 t1 t2 t3 hB hb hbP hbz
        generalize wo.drewN nq = wq at *
        obtain ⟨hB, c0, c1, c2, c3, c4, cf⟩ := HSq.out.cells
        have y0 := HXq.out.cell 0
        have y1 := HXq.out.cell 1
        have yf := HXq.out.frozen
        have yz := HXq.out.lt
        have yB := HBq.out.size
        (try dsimp only [List.getElem?_cons_succ, List.getElem?_cons_zero] at y0 y1)
        have HFN := Lib.hid (Own.set_ (Own.set_ HXq.out 0 (.slice NA ns.length nc)) 1 (.slice AA as_.length ac))
        go_wp2_with fail
        have z0 := HFN.out.cell 0
        have z1 := HFN.out.cell 1
        simp only [List.set_cons_zero, List.set_cons_succ, List.getElem?_cons_succ, List.getElem?_cons_zero] at z0 z1
        refine bodyPost_ret (v := .tuple #[.agg #[.slice NA ns.length nc, .slice AA as_.length ac], .int .i64 (-1)]) (by simp [results, Tryz.results12, go_sem, z0, z1]) rfl (OutParse.mk_ HF.out rfl rfl (ProgM.mono (PMem.progM (base := w.heap.size + 1) (B := B) (TA := some ⟨g, 0, none⟩) (tc := tc) (T := Ts) ?_ hasl) (by omega)) (by repeat (first | (with_reducible exact Below.refl _ _) | (with_reducible exact HBq.out) | (with_reducible assumption) | ((with_reducible refine Below.alloc ?_ ?_ _); rotate_left; (first | omega | (simp <;> omega))) | ((with_reducible refine Below.setCell ?_ ?_ _); rotate_left; (first | omega | (simp <;> omega))) | (with_reducible refine below_drewN ?_ _) | (with_reducible refine Below.drew ?_) | ((with_reducible refine Below.step (by assumption) ?_ ?_); rotate_left; (first | omega | (simp <;> omega))))))
        refine HSq.out.2.keepX (by simp) (fun z h1 h2 h3 => ?_)
        have hz : z ≠ w.heap.size := fun e => h2 (by rw [e]; simp)
        rw [Below.heap_setCell _ _ _ _ (by exact hz), Below.heap_setCell _ _ _ _ (by exact hz)]
      · have e0 : (k != 0) = true := by simpa using k0
        have e00 : (k == 0) = false := by simpa using k0
        have HK0 := Lib.hid k0
        clear k0
        have hin := kd_in HK.out.ok ha (by rw [HKD.out]; exact HK0.out)
        go_wp2_with fail
        go_quiet (fail)
        go_wp2_with fail
        have HSq : Hid (SpSt (wo.drewN nq) B (w.heap.size + 1) (some ⟨g, 0, none⟩) tc Ts AA ac as_ (List.range (w.heap.size + 1)) a NA nc ns (-1)) := Lib.hid (HS.out.drewN nq)
        have HXq : Hid (Own (wo.drewN nq) w.heap.size 26 [.slice none 0 0, .slice none 0 0]) := Lib.hid (HX.out.drewN nq)
        have HBq : Hid (Below w.heap.size w (wo.drewN nq)) := Lib.hid (below_drewN HB.out nq)
        clear HS HX HB c0 c1 c4 cf t0 t1 t2 t3 hB hb hbP hbz
        generalize wo.drewN nq = wq at *
        have HS := HSq
        have HX := HXq
        have HB := HBq
        clear HSq HXq HBq
        obtain ⟨wo, rfl⟩ : ∃ wo, wo = wq := ⟨_, rfl⟩
        obtain ⟨hB, c0, c1, _, _, c4, cf⟩ := HS.out.cells
        obtain ⟨_, _, b, o, hTA, hb, _, t0, t1, t2, t3⟩ := HS.out.2.tokAt ha
        simp only [Option.some.injEq, Addr.mk.injEq, and_true] at hTA
        obtain ⟨rfl, rfl⟩ := hTA
        rw [Nat.zero_add, HKD.out] at t0
        rw [Nat.zero_add, HXE.out] at t1
        rw [Nat.zero_add, HME.out] at t2
        rw [Nat.zero_add, HQE.out] at t3
        have hbz := HB.out.size
        have hbP := HX.out.lt
        go_region_held3 (fun w' => w'.cell? ⟨B, 0, none⟩ = some (.slice (some ⟨g, 0, none⟩) Ts.length tc) ∧ w'.cell? ⟨B, 1, none⟩ = some (.int .i64 a) ∧ w'.cell? ⟨g, a * 4, none⟩ = some (.int .i64 k) ∧ w'.cell? ⟨g, a * 4 + 1, none⟩ = some (str x) ∧ w'.cell? ⟨g, a * 4 + 2, none⟩ = some (.int .i64 m) ∧ w'.cell? ⟨g, a * 4 + 3, none⟩ = some (.int .i64 q))
          (first | ((try dsimp only); refine ⟨?_, ?_, ?_, ?_, ?_, ?_⟩ <;> (go_simp; done)) | go_keep)
          (fail)
        have hBw := HPB.out
        have hB1 : w.heap.size + 1 ≤ B := hwB
        have HAB : Hid (∀ y, y ∈ B :: gOf NA → w.heap.size + 1 ≤ y ∧ y < wo.heap.size) := Lib.hid (fun y hy => by
          rcases List.mem_cons.1 hy with rfl | hy
          · exact ⟨hB1, hB⟩
          · obtain ⟨cs, hg, _⟩ := HS.out.2.nod
            exact ⟨by have := (HS.out.2.apN y hy).2.2; simp at this; omega, hg.lt y hy⟩)
        have HAT : Hid (wo.heap.size ∉ gOf AA) := Lib.hid (fun q => by have := HS.out.2.ass.lt _ q; omega)
        have HS1 : Hid (SpSt (World.drew (wo.alloc (.cells #[.int .i64 k, str x, .int .i64 m, .int .i64 q] 74))) B (w.heap.size + 1) (some ⟨g, 0, none⟩) tc Ts AA ac as_ (List.range (w.heap.size + 1)) a NA nc ns (-1)) := Lib.hid (SpSt.drew (SpSt.alloc HS.out _))
        have HT1 : Hid (Box (World.drew (wo.alloc (.cells #[.int .i64 k, str x, .int .i64 m, .int .i64 q] 74))) wo.heap.size [.int .i64 k, str x, .int .i64 m, .int .i64 q]) := Lib.hid (Box.of_own (Own.drew (Own.new wo 74 #[.int .i64 k, str x, .int .i64 m, .int .i64 q])))
        have HX1' : Hid (Own (World.drew (wo.alloc (.cells #[.int .i64 k, str x, .int .i64 m, .int .i64 q] 74))) w.heap.size 26 [.slice none 0 0, .slice none 0 0]) := Lib.hid (Own.drew (HX.out.alloc _))
        have HB1' : Hid (Below w.heap.size w (World.drew (wo.alloc (.cells #[.int .i64 k, str x, .int .i64 m, .int .i64 q] 74)))) := Lib.hid (by repeat (first | (with_reducible exact Below.refl _ _) | (with_reducible exact HB.out) | (with_reducible assumption) | ((with_reducible refine Below.alloc ?_ ?_ _); rotate_left; (first | omega | (simp <;> omega))) | ((with_reducible refine Below.setCell ?_ ?_ _); rotate_left; (first | omega | (simp <;> omega))) | (with_reducible refine below_drewN ?_ _) | (with_reducible refine Below.drew ?_) | ((with_reducible refine Below.step (by assumption) ?_ ?_); rotate_left; (first | omega | (simp <;> omega)))))
        have hu1z : wo.heap.size + 1 = (World.drew (wo.alloc (.cells #[.int .i64 k, str x, .int .i64 m, .int .i64 q] 74))).heap.size := by simp [World.drew]
        generalize World.drew (wo.alloc (.cells #[.int .i64 k, str x, .int .i64 m, .int .i64 q] 74)) = u1 at *
        obtain ⟨tz, x0, x1, x2, x3⟩ := HT1.out.open4
        have hq0 : (0 : Int) ≤ q := by have := HK.out.off a; rw [HQE.out] at this; exact this
        have HFL := Lib.hid (S_l13Fail u1 HS1.out ha)
        rw [HQE.out] at HFL
        clear t0 t1 t2 t3 c0 c1 c4 cf
        by_cases k2 : k = 2
        · subst k2
          obtain ⟨dB, _, d1, _, _, d4, df⟩ := HS1.out.cells
          have hTB : ¬ wo.heap.size = B := by omega
          have hSA : SpSt (u1.setCell ⟨B, 1, none⟩ (.int .i64 ((a : Int) + 1))) B (w.heap.size + 1) (some ⟨g, 0, none⟩) tc Ts AA ac as_ (List.range (w.heap.size + 1)) (a + 1) NA nc ns (-1) := by have := HS1.out.setAt (a + 1); simpa using this
          have hOA : Only u1.heap.size [B] u1 (u1.setCell ⟨B, 1, none⟩ (.int .i64 ((a : Int) + 1))) := (Only.refl _ _ _).setCell (by simp) _
          have HXP := Lib.hid (S_l13Expect [61] _ hSA hin hlen)
          have HSA := Lib.hid hSA
          have HOA := Lib.hid hOA
          clear hSA hOA
          by_cases h61 : pk Ts (a + 1) = [61]
          · rw [h61] at HXP
            have HXP1 : Hid (Calls Tryz.prog 29 #[.pointer (some ⟨B, 0, none⟩), .string ⟨#[61]⟩] (u1.setCell ⟨B, 1, none⟩ (.int .i64 ((a : Int) + 1))) (PExp B (w.heap.size + 1) (some ⟨g, 0, none⟩) tc Ts AA ac as_ (List.range (w.heap.size + 1)) (a + 1) NA nc ns true (u1.setCell ⟨B, 1, none⟩ (.int .i64 ((a : Int) + 1))))) := Lib.hid HXP.out
            clear HXP
            have hin2 := pk_in HK.out.ok hin (by rw [h61]; simp)
            have hE := prs_ends HK.out.ok (fuelT Ts) (.bin true) 1 (a + 2) ns hin2 (by unfold fuelT; show 3 + _ ≤ _; omega)
            have HEX : Hid (∀ wx, SpSt wx B (w.heap.size + 1) (some ⟨g, 0, none⟩) tc Ts AA ac as_ (List.range (w.heap.size + 1)) (a + 2) NA nc ns (-1) → Calls Tryz.prog 30 #[.pointer (some ⟨B, 0, none⟩), .int .i64 1] wx (PGo B (w.heap.size + 1) (some ⟨g, 0, none⟩) tc Ts AA ac as_ (List.range (w.heap.size + 1)) NA (prs Ts (fuelT Ts) (.bin true) 1 (a + 2) ns) wx)) := Lib.hid (fun wx hx => by have := S_l13Expression (S_prs HK.out (fuelT Ts)) (d := 1) wx hx hin2 (by omega) (by unfold fuelT; omega); simpa using this)
            go_wp2_with fail
            refine HXP1.out.mono ?_
            rintro e u2 ⟨rfl, hO2, hs2, _⟩
            have HS2 := Lib.hid (hs2 rfl)
            have hO12 : Only u1.heap.size [B] u1 u2 := HOA.out.sub hO2 (by simp) (fun y hy => .inl hy)
            have HX2 := Lib.hid (hO12.own HX1'.out (by omega) (by simp; exact HPB.out))
            have HT2' := Lib.hid (Box.only hO12 HT1.out tz (by simp; exact hTB))
            have HB2 := Lib.hid (below_only HB1'.out hO12 (fun y hy => by simp at hy; omega))
            have hz12 := hO12.size
            clear hO2 hs2 hO12 x0 x1 x2 x3 d1 d4 df
            cases hr : prs Ts (fuelT Ts) (.bin true) 1 (a + 2) ns with
            | out => exact absurd hr hE.1
            | bad o =>
              rw [hr] at HEX
              have hRR : R = .error o := by
                have := HRA.out
                rw [asg_bad HKD.out h61 hr] at this
                injection this with this
                exact this.symm
              have HF : Hid (parF src = (([], []), o)) := Lib.hid (by rw [HPF.out]; exact parT_no (by rw [HR.out, hRR]))
              clear hRR HRA hr h61 hE
              go_wp2_with fail
              refine (HEX.out _ HS2.out).mono ?_
              rintro e u3 ⟨r, b0, b1, b2, b3, rfl, hw3, ho, hO3⟩
              have HW3 := Lib.hid hw3
              have HX3 := Lib.hid (hO3.own HX2.out (by omega) (fun hy => by have := HAB.out _ hy; omega))
              have HB3 := Lib.hid (below_only HB2.out hO3 (fun y hy => by have := HAB.out y hy; omega))
              clear hw3 hO3
              have zB := HW3.out.lt
              have zP := HX3.out.lt
              have g4 := HW3.out.cell 4
              have y0 := HX3.out.cell 0
              have y1 := HX3.out.cell 1
              have yf := HX3.out.frozen
              (try dsimp only [List.getElem?_cons_succ, List.getElem?_cons_zero] at g4 y0 y1)
              have hPB : ¬ w.heap.size = B := by omega
              have hBP : ¬ B = w.heap.size := by omega
              go_wp2_with fail
              go_region_held3 (fun w' => w'.cell? ⟨B, 4, none⟩ = some (.int .i64 (o)))
                (first | ((try dsimp only); (go_simp; done)) | go_keep)
                (fail)
              all_goals
                go_wp2_with fail
                exact bodyPost_ret (v := .tuple #[.agg #[.slice none 0 0, .slice none 0 0], .int .i64 (o)]) (by simp [results, Tryz.results12, go_sem, *]) rfl (OutParse.mk_ HF.out rfl rfl (ProgM.nil _ _) (by repeat (first | (with_reducible exact Below.refl _ _) | (with_reducible exact HB3.out) | (with_reducible assumption) | ((with_reducible refine Below.alloc ?_ ?_ _); rotate_left; (first | omega | (simp <;> omega))) | ((with_reducible refine Below.setCell ?_ ?_ _); rotate_left; (first | omega | (simp <;> omega))) | (with_reducible refine below_drewN ?_ _) | (with_reducible refine Below.drew ?_) | ((with_reducible refine Below.step (by assumption) ?_ ?_); rotate_left; (first | omega | (simp <;> omega))))))
            | ok v a1 n1 =>
              rw [hr] at HEX
              have h6 : a + 2 + 1 ≤ a1 ∧ a1 < Ts.length := hE.2 v a1 n1 hr
              go_wp2_with fail
              refine (HEX.out _ HS2.out).mono ?_
              rintro e u3 ⟨NA3, nc3, rfl, hs3, hO3, hS3⟩
              have HS3 := Lib.hid hs3
              have HX3 := Lib.hid (hO3.own HX2.out (by omega) (fun hy => by have := HAB.out _ hy; omega))
              have HT3 := Lib.hid (Box.only hO3 HT2'.out (by omega) (fun hy => by have := HAB.out _ hy; omega))
              have HB3 := Lib.hid (below_only HB2.out hO3 (fun y hy => by have := HAB.out y hy; omega))
              have HXP3 := Lib.hid (S_l13Expect [59] u3 hs3 h6.2 hlen)
              have g4' := hs3.cells.2.2.2.2.2.1
              have hz23 := hO3.size
              clear hs3 hO3 hE
              by_cases h59 : pk Ts a1 = [59]
              · rw [h59] at HXP3
                have HXP4 : Hid (Calls Tryz.prog 29 #[.pointer (some ⟨B, 0, none⟩), .string ⟨#[59]⟩] u3 (PExp B (w.heap.size + 1) (some ⟨g, 0, none⟩) tc Ts AA ac as_ (List.range (w.heap.size + 1)) a1 NA3 nc3 n1 true u3)) := Lib.hid HXP3.out
                have hin4 := pk_in HK.out.ok h6.2 (by rw [h59]; simp)
                have hRN : asg Ts (fuelT Ts) f' (a1 + 1) n1 (as_ ++ [(x, v)]) = some R := by
                  have := HRA.out
                  rw [asg_next HKD.out h61 hr h59, HXE.out] at this
                  exact this
                have HRN := Lib.hid hRN
                clear hRN HRA hr h61 h59 HXP3
                go_wp2_with fail
                refine HXP4.out.mono ?_
                rintro e u4 ⟨rfl, hO4, hs4, _⟩
                have HS4 := Lib.hid (hs4 rfl)
                have HX4 := Lib.hid (hO4.own HX3.out (by omega) (by simp; exact HPB.out))
                have HT4 := Lib.hid (Box.only hO4 HT3.out (by omega) (by simp; exact hTB))
                have HB4 := Lib.hid (below_only HB3.out hO4 (fun y hy => by simp at hy; omega))
                have hz34 := hO4.size
                clear hs4 hO4 g4'
                obtain ⟨zB, _, _, _, d3, _, df⟩ := HS4.out.cells
                obtain ⟨tz4, _, x1, _, _⟩ := HT4.out.open4
                have hBT : ¬ B = wo.heap.size := fun e => hTB e.symm
                have hasl : as_.length ≤ 2001 := by omega
                have hlow := HS4.out.2.low
                have HGA := Lib.hid HS4.out.2.ass
                go_wp2_with fail
                refine wp_region_M (S := (fun w' => w'.cell? ⟨B, 3, none⟩ = some (.slice AA as_.length ac) ∧ w'.frozen? ⟨B, 3, none⟩ = false ∧ w'.cell? ⟨wo.heap.size, 1, none⟩ = some (str x))) 15 (by kernel_rfl) (by (try dsimp only); refine ⟨?_, ?_, ?_⟩ <;> (go_simp; done)) (fun hHeld => ?_)
                refine wpAnyM_take (i := 0) (v := ?_) rfl (by kernel_rfl) (by kernel_rfl) (by kernel_rfl) (by kernel_rfl) (fun _ _ _ h => h) (Or.inl ⟨by rfl, ?_⟩) (by assumption) ?_; rotate_left; focus (intro w hSw; (try dsimp only at hSw); go_simp; try with_reducible rfl)
                refine wpAnyM_take (i := 1) (v := ?_) rfl (by kernel_rfl) (by kernel_rfl) (by kernel_rfl) (by kernel_rfl) (fun _ _ _ h => h) (Or.inl ⟨by rfl, ?_⟩) (by assumption) ?_; rotate_left; focus (intro w hSw; (try dsimp only at hSw); go_simp; try with_reducible rfl)
                refine wpAnyM_take (i := 2) (v := ?_) rfl (by kernel_rfl) (by kernel_rfl) (by kernel_rfl) (by kernel_rfl) (fun _ _ _ h => h) (Or.inl ⟨by rfl, ?_⟩) (by assumption) ?_; rotate_left; focus (intro w hSw; (try dsimp only at hSw); go_simp; try with_reducible rfl)
                refine wpAnyM_take (i := 3) (v := ?_) rfl (by kernel_rfl) (by kernel_rfl) (by kernel_rfl) (by kernel_rfl) (fun _ _ _ h => h) (Or.inl ⟨by rfl, ?_⟩) (by assumption) ?_; rotate_left; focus (intro w hSw; (try dsimp only at hSw); go_simp; try with_reducible rfl)
                refine wpAnyM_take (i := 4) (v := ?_) rfl (by kernel_rfl) (by kernel_rfl) (by kernel_rfl) (by kernel_rfl) (fun _ _ _ h => h) (Or.inl ⟨by rfl, ?_⟩) (by assumption) ?_; rotate_left; focus (intro w hSw; (try dsimp only at hSw); go_simp; try with_reducible rfl)
                refine wpAnyM_take (i := 5) (v := ?_) rfl (by kernel_rfl) (by kernel_rfl) (by kernel_rfl) (by kernel_rfl) (fun _ _ _ h => h) (Or.inl ⟨by rfl, ?_⟩) (by assumption) ?_; rotate_left; focus (intro w hSw; (try dsimp only at hSw); go_simp; try with_reducible rfl)
                refine wpAnyM_take (i := 6) (v := ?_) rfl (by kernel_rfl) (by kernel_rfl) (by kernel_rfl) (by kernel_rfl) (fun _ _ _ h => h) (Or.inl ⟨by rfl, ?_⟩) (by assumption) ?_; rotate_left; focus (intro w hSw; (try dsimp only at hSw); go_simp; try with_reducible rfl)
                refine wpAnyM_take (i := 7) (v := ?_) rfl (by kernel_rfl) (by kernel_rfl) (by kernel_rfl) (by kernel_rfl) (fun _ _ _ h => h) (Or.inl ⟨by rfl, ?_⟩) (by assumption) ?_; rotate_left; focus (intro w hSw; (try dsimp only at hSw); go_simp; try with_reducible rfl)
                refine wpAnyM_take (i := 8) (v := ?_) rfl (by kernel_rfl) (by kernel_rfl) (by kernel_rfl) (by kernel_rfl) (fun _ _ _ h => h) (Or.inl ⟨by rfl, ?_⟩) (by assumption) ?_; rotate_left; focus (intro w hSw; (try dsimp only at hSw); go_simp; try with_reducible rfl)
                refine wpAnyM_take (i := 9) (v := ?_) rfl (by kernel_rfl) (by kernel_rfl) (by kernel_rfl) (by kernel_rfl) (fun _ _ _ h => h) (Or.inl ⟨by rfl, ?_⟩) (by assumption) ?_; rotate_left; focus (intro w hSw; (try dsimp only at hSw); go_simp; try with_reducible rfl)
                refine wpAnyM_one (i := 10) rfl (by kernel_rfl) (fun K10 hK10 => ?_)
                go_simp
                refine hK10.out _ _ (fun _ => by (try dsimp only); refine ⟨?_, ?_, ?_⟩ <;> (go_simp; done)) (fun hHeld10 => ?_)
                have hX10 := hHeld10 (by decide)
                refine wpAnyM_one (i := 11) rfl (by kernel_rfl) (fun K11 hK11 => ?_)
                (refine step_app (by rfl) _ _ 24 (by rfl) (w.heap.size + 1) 48 (.agg #[.string ByteArray.empty, .int .i64 0]) 2 24 Tryz.underlying24 T.infoAss rfl (by decide) (xs := rAss as_) (by rfl) ?_ (ys := rAss [(x, v)]) (by rfl) ?_ (rAss_one _) ?_ ?_ ?_ ?_; (exact (by repeat (first | (with_reducible exact HGA.out) | (with_reducible refine Grow.alloc ?_ _) | (with_reducible refine Grow.drewN ?_ _) | (with_reducible refine Grow.drew ?_) | ((with_reducible refine Grow.far ?_ ?_ _); rotate_left; (first | omega | (simp <;> omega))) | (with_reducible refine Grow.step (by assumption) ?_)))); (exact (Grow.rs (base := 0) (n := 1) (c := 1) (by repeat (first | (with_reducible refine Grow.drewN ?_ _) | (with_reducible refine Grow.drew ?_) | (refine Grow.lit_at (by simp) (by rfl) (Nat.zero_le _) (by unfold maxLen; omega)))))); (unfold maxLen; omega); (omega); (first | omega | (simp <;> omega)); rintro A' c' w2 gA)
                have hsa := gA.2.2.2.1
                (try simp at hsa)
                have hem := PMem.assign HS4.out.2 (by repeat (first | (with_reducible exact Below.refl _ _) | (with_reducible assumption) | ((with_reducible refine Below.alloc ?_ ?_ _); rotate_left; (first | omega | (simp <;> omega))) | ((with_reducible refine Below.setCell ?_ ?_ _); rotate_left; (first | omega | (simp <;> omega))) | (with_reducible refine below_drewN ?_ _) | (with_reducible refine Below.drew ?_) | ((with_reducible refine Below.step (by assumption) ?_ ?_); rotate_left; (first | omega | (simp <;> omega))))) gA
                have hAA := HS4.out.2.ass.lt
                have hAX := HS4.out.2.apA
                have ho2 : Own w2 B 77 [.slice (some ⟨g, 0, none⟩) Ts.length tc, .int .i64 ((a1 + 1 : Nat) : Int), .slice NA3 n1.length nc3, .slice AA as_.length ac, .int .i64 (-1)] := hem.2.1.own HS4.out.1 zB (fun hN => (hAX B hN).1 rfl)
                have hx2 : Own w2 w.heap.size 26 [.slice none 0 0, .slice none 0 0] := hem.2.1.own HX4.out HX4.out.lt (fun hN => by have := (hAX _ hN).2; simp at this)
                have hb2 : Below w.heap.size w w2 := below_only HB4.out hem.2.1 (fun y hy => by have := (hAX y hy).2; simp at this; omega)
                have hA4 : wo.heap.size ∉ gOf AA := HAT.out
                have ht2' : Box w2 wo.heap.size [.int .i64 2, str x, .int .i64 m, .int .i64 q] := Box.only hem.2.1 HT4.out tz4 hA4
                have HO2 := Lib.hid ho2
                have HX5 := Lib.hid hx2
                have HB5 := Lib.hid hb2
                have HT5 := Lib.hid ht2'
                have HE2 := Lib.hid hem.1
                have k3 := ho2.cell 3
                have kf := ho2.frozen 3
                have kx := ht2'.open4.2.2.1
                have kB := ho2.lt
                (try dsimp only [List.getElem?_cons_succ, List.getElem?_cons_zero] at k3)
                clear gA hem ho2 hx2 hb2 ht2' hAA hAX
                refine hK11.out _ _ (fun _ => by (try dsimp only); refine ⟨?_, ?_, ?_⟩ <;> (go_simp; done)) (fun hHeld11 => ?_)
                have hX11 := hHeld11 (by decide)
                refine wpAnyM_one (i := 12) rfl (by kernel_rfl) (fun K12 hK12 => ?_)
                go_simp
                refine hK12.out _ _ (fun _ => hX11) (fun hHeld12 => ?_)
                have hX12 := hHeld12 (by decide)
                refine wpAnyM_one (i := 13) rfl (by kernel_rfl) (fun K13 hK13 => ?_)
                go_simp
                refine hK13.out _ _ (fun _ => hX12) (fun hHeld13 => ?_)
                have hX13 := hHeld13 (by decide)
                refine wpAnyM_one (i := 14) rfl (by kernel_rfl) (fun K14 hK14 => ?_)
                go_simp
                refine hK14.out _ _ (fun _ => hX13) (fun hHeld14 => ?_)
                have hX14 := hHeld14 (by decide)
                refine wpAnyM_one (i := 15) rfl (by kernel_rfl) (fun K15 hK15 => ?_)
                go_simp
                refine hK15.out _ _ (fun h => absurd rfl h) (fun hHeld15 => ?_)
                refine wpAnyM_done (by kernel_rfl) ?_ _
                have hst : SpSt (w2.setCell ⟨B, 3, none⟩ (.slice A' (as_.length + 1) c')) B (w.heap.size + 1) (some ⟨g, 0, none⟩) tc Ts A' c' (as_ ++ [(x, v)]) (List.range (w.heap.size + 1)) (a1 + 1) NA3 nc3 n1 (-1) := ⟨by have := HO2.out.set_ 3 (.slice A' (as_.length + 1) c'); simpa using this, HE2.out.set_ 3 _⟩
                have HSF := Lib.hid hst
                have HXF : Hid (Own (w2.setCell ⟨B, 3, none⟩ (.slice A' (as_.length + 1) c')) w.heap.size 26 [.slice none 0 0, .slice none 0 0]) := Lib.hid (HX5.out.far (by simp; exact HPB.out) _)
                have HBF : Hid (Below w.heap.size w (w2.setCell ⟨B, 3, none⟩ (.slice A' (as_.length + 1) c'))) := Lib.hid (Below.setCell HB5.out (by simp; omega) _)
                generalize w2.setCell ⟨B, 3, none⟩ (.slice A' (as_.length + 1) c') = w3 at *
                clear hst hX10 hX11 hX12 hX13 hX14 hHeld k3 kf kx
                go_wp2_with fail
                go_roundg (gk - 1)
                case measure => omega
                case rel => exact ⟨A', c', as_ ++ [(x, v)], a1 + 1, NA3, nc3, n1, f', HSF.out, hin4, by omega, by omega, HRN.out, by simp; omega, HXF.out, HBF.out⟩
              · have hdf : decide (pk Ts a1 = [59]) = false := by simp [h59]
                rw [hdf] at HXP3
                have HXP4 : Hid (Calls Tryz.prog 29 #[.pointer (some ⟨B, 0, none⟩), .string ⟨#[59]⟩] u3 (PExp B (w.heap.size + 1) (some ⟨g, 0, none⟩) tc Ts AA ac as_ (List.range (w.heap.size + 1)) a1 NA3 nc3 n1 false u3)) := Lib.hid HXP3.out
                have hRR : R = .error (of_ Ts a1) := by
                  have := HRA.out
                  rw [asg_semi HKD.out h61 hr h59] at this
                  injection this with this
                  exact this.symm
                have HF : Hid (parF src = (([], []), of_ Ts a1)) := Lib.hid (by rw [HPF.out]; exact parT_no (by rw [HR.out, hRR]))
                obtain ⟨o, hoe, ho⟩ : ∃ o, of_ Ts a1 = o ∧ 0 ≤ o := ⟨_, rfl, HK.out.off a1⟩
                rw [hoe] at HF
                clear hRR HRA hr h61 h59 hdf HXP3
                have HOE := Lib.hid hoe
                clear hoe
                go_wp2_with fail
                refine HXP4.out.mono ?_
                rintro e u4 ⟨rfl, hO4, _, hs4⟩
                obtain ⟨b0, b1, b2, b3, hw4⟩ := hs4 rfl
                rw [HOE.out] at hw4
                have HW4 := Lib.hid hw4
                have HX4 := Lib.hid (hO4.own HX3.out (by omega) (by simp; exact HPB.out))
                have HB4 := Lib.hid (below_only HB3.out hO4 (fun y hy => by simp at hy; omega))
                clear hw4 hs4 hO4 g4'
                have zB := HW4.out.lt
                have zP := HX4.out.lt
                have g4 := HW4.out.cell 4
                have y0 := HX4.out.cell 0
                have y1 := HX4.out.cell 1
                have yf := HX4.out.frozen
                (try dsimp only [List.getElem?_cons_succ, List.getElem?_cons_zero] at g4 y0 y1)
                have hPB : ¬ w.heap.size = B := by omega
                have hBP : ¬ B = w.heap.size := by omega
                go_wp2_with fail
                go_region_held3 (fun w' => w'.cell? ⟨B, 4, none⟩ = some (.int .i64 (o)))
                  (first | ((try dsimp only); (go_simp; done)) | go_keep)
                  (fail)
                all_goals
                  go_wp2_with fail
                  exact bodyPost_ret (v := .tuple #[.agg #[.slice none 0 0, .slice none 0 0], .int .i64 (o)]) (by simp [results, Tryz.results12, go_sem, *]) rfl (OutParse.mk_ HF.out rfl rfl (ProgM.nil _ _) (by repeat (first | (with_reducible exact Below.refl _ _) | (with_reducible exact HB4.out) | (with_reducible assumption) | ((with_reducible refine Below.alloc ?_ ?_ _); rotate_left; (first | omega | (simp <;> omega))) | ((with_reducible refine Below.setCell ?_ ?_ _); rotate_left; (first | omega | (simp <;> omega))) | (with_reducible refine below_drewN ?_ _) | (with_reducible refine Below.drew ?_) | ((with_reducible refine Below.step (by assumption) ?_ ?_); rotate_left; (first | omega | (simp <;> omega))))))
          · have hdf : decide (pk Ts (a + 1) = [61]) = false := by simp [h61]
            rw [hdf] at HXP
            have HXP1 : Hid (Calls Tryz.prog 29 #[.pointer (some ⟨B, 0, none⟩), .string ⟨#[61]⟩] (u1.setCell ⟨B, 1, none⟩ (.int .i64 ((a : Int) + 1))) (PExp B (w.heap.size + 1) (some ⟨g, 0, none⟩) tc Ts AA ac as_ (List.range (w.heap.size + 1)) (a + 1) NA nc ns false (u1.setCell ⟨B, 1, none⟩ (.int .i64 ((a : Int) + 1))))) := Lib.hid HXP.out
            have hRR : R = .error (of_ Ts (a + 1)) := by
              have := HRA.out
              rw [asg_eq HKD.out h61] at this
              injection this with this
              exact this.symm
            have HF : Hid (parF src = (([], []), of_ Ts (a + 1))) := Lib.hid (by rw [HPF.out]; exact parT_no (by rw [HR.out, hRR]))
            obtain ⟨o, hoe, ho⟩ : ∃ o, of_ Ts (a + 1) = o ∧ 0 ≤ o := ⟨_, rfl, HK.out.off (a + 1)⟩
            rw [hoe] at HF
            clear hRR HRA h61 hdf HXP
            have HOE := Lib.hid hoe
            clear hoe
            go_wp2_with fail
            refine HXP1.out.mono ?_
            rintro e u2 ⟨rfl, hO2, _, hs2⟩
            obtain ⟨b0, b1, b2, b3, hw2⟩ := hs2 rfl
            rw [HOE.out] at hw2
            have hO12 : Only u1.heap.size [B] u1 u2 := HOA.out.sub hO2 (by simp) (fun y hy => .inl hy)
            have HW2 := Lib.hid hw2
            have HX2 := Lib.hid (hO12.own HX1'.out (by omega) (by simp; exact HPB.out))
            have HB2 := Lib.hid (below_only HB1'.out hO12 (fun y hy => by simp at hy; omega))
            clear hO2 hs2 hO12 hw2 x0 x1 x2 x3 d1 d4 df
            have zB := HW2.out.lt
            have zP := HX2.out.lt
            have g4 := HW2.out.cell 4
            have y0 := HX2.out.cell 0
            have y1 := HX2.out.cell 1
            have yf := HX2.out.frozen
            (try dsimp only [List.getElem?_cons_succ, List.getElem?_cons_zero] at g4 y0 y1)
            have hPB : ¬ w.heap.size = B := by omega
            have hBP : ¬ B = w.heap.size := by omega
            go_wp2_with fail
            go_region_held3 (fun w' => w'.cell? ⟨B, 4, none⟩ = some (.int .i64 (o)))
              (first | ((try dsimp only); (go_simp; done)) | go_keep)
              (fail)
            all_goals
              go_wp2_with fail
              exact bodyPost_ret (v := .tuple #[.agg #[.slice none 0 0, .slice none 0 0], .int .i64 (o)]) (by simp [results, Tryz.results12, go_sem, *]) rfl (OutParse.mk_ HF.out rfl rfl (ProgM.nil _ _) (by repeat (first | (with_reducible exact Below.refl _ _) | (with_reducible exact HB2.out) | (with_reducible assumption) | ((with_reducible refine Below.alloc ?_ ?_ _); rotate_left; (first | omega | (simp <;> omega))) | ((with_reducible refine Below.setCell ?_ ?_ _); rotate_left; (first | omega | (simp <;> omega))) | (with_reducible refine below_drewN ?_ _) | (with_reducible refine Below.drew ?_) | ((with_reducible refine Below.step (by assumption) ?_ ?_); rotate_left; (first | omega | (simp <;> omega))))))
        · have e2 : (k != 2) = true := by simpa using k2
          have e22 : (k == 2) = false := by simpa using k2
          have hRR : R = .error q := by
            have := HRA.out
            rw [asg_kind (by rw [HKD.out]; exact HK0.out) (by rw [HKD.out]; exact k2), HQE.out] at this
            injection this with this
            exact this.symm
          have HF : Hid (parF src = (([], []), q)) := Lib.hid (by rw [HPF.out]; exact parT_no (by rw [HR.out, hRR]))
          clear hRR HRA k2
          go_wp2_with fail
          refine HFL.out.mono ?_
          rintro e u2 ⟨rfl, rfl⟩
          have HW2 : Hid (Own (u1.setCell ⟨B, 4, none⟩ (.int .i64 q)).drew B 77 [_, _, _, _, .int .i64 q]) := Lib.hid (HS1.out.setBad q).1.drew
          have HX2 : Hid (Own (u1.setCell ⟨B, 4, none⟩ (.int .i64 q)).drew w.heap.size 26 [.slice none 0 0, .slice none 0 0]) := Lib.hid (Own.drew (HX1'.out.far (by simp; exact HPB.out) _))
          have HB2 : Hid (Below w.heap.size w (u1.setCell ⟨B, 4, none⟩ (.int .i64 q)).drew) := Lib.hid (Below.drew (Below.setCell HB1'.out (by simp; omega) _))
          generalize (u1.setCell ⟨B, 4, none⟩ (.int .i64 q)).drew = u2 at *
          clear x0 x1 x2 x3
          have zB := HW2.out.lt
          have zP := HX2.out.lt
          have g4 := HW2.out.cell 4
          have y0 := HX2.out.cell 0
          have y1 := HX2.out.cell 1
          have yf := HX2.out.frozen
          (try dsimp only [List.getElem?_cons_succ, List.getElem?_cons_zero] at g4 y0 y1)
          have hPB : ¬ w.heap.size = B := by omega
          have hBP : ¬ B = w.heap.size := by omega
          go_wp2_with fail
          go_region_held3 (fun w' => w'.cell? ⟨B, 4, none⟩ = some (.int .i64 (q)))
            (first | ((try dsimp only); (go_simp; done)) | go_keep)
            (fail)
          all_goals
            go_wp2_with fail
            exact bodyPost_ret (v := .tuple #[.agg #[.slice none 0 0, .slice none 0 0], .int .i64 (q)]) (by simp [results, Tryz.results12, go_sem, *]) rfl (OutParse.mk_ HF.out rfl rfl (ProgM.nil _ _) (by repeat (first | (with_reducible exact Below.refl _ _) | (with_reducible exact HB2.out) | (with_reducible assumption) | ((with_reducible refine Below.alloc ?_ ?_ _); rotate_left; (first | omega | (simp <;> omega))) | ((with_reducible refine Below.setCell ?_ ?_ _); rotate_left; (first | omega | (simp <;> omega))) | (with_reducible refine below_drewN ?_ _) | (with_reducible refine Below.drew ?_) | ((with_reducible refine Below.step (by assumption) ?_ ?_); rotate_left; (first | omega | (simp <;> omega))))))
end Go.Proofs.YtnlbojckobgjpaaGreatDoor
