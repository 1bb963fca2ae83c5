/- FnBuckets: THE SENDER: the function literal of stream. -/
import Derived.Test.YthpanpedoeghoaaBktP
import Derived.Test.YthpanpedoeghoaaLiftB
import Derived.Conc.Company
import Derived.Conc.WalkWords
import Derived.Laws.AppendOwn
import Derived.Conc.AppendEvents2
import Derived.KernelRfl
import Derived.OwnWalk
import Derived.Laws.NewBlocks
import Derived.Below
set_option linter.unusedVariables false
set_option linter.unusedSimpArgs false
set_option linter.unnecessarySimpa false
namespace Go.Proofs.Ythpanpedoeghoaa
open Go.Conc Go.RowKit Go.Proofs.Ythpanpedoeghoaa.Lift
set_option linter.unusedVariables false
set_option linter.unusedSimpArgs false

def b30 : Frame := { (default : Frame) with fn := 30, kind := .deferred }
noncomputable def body30 : Code := Try.f30.body.getD .skip
noncomputable def X30 : Code := match body30 with | .seq _ (.seq _ (.block _ (.loop c))) => c | _ => .skip
noncomputable def R3' : Code := match X30 with | .seq _ (.seq _ c) => c | _ => .skip
noncomputable def Y30 : Code := match X30 with | .seq _ (.seq (.block _ (.seq _ (.block _ (.loop c)))) _) => c | _ => .skip
/-- What is the receiver's own: the cells of the blocks made behind the go statement, and of the first row. 'N': the number of blocks ahead of the four that stream makes. -/
def Mine (N : Nat) : Loc → Prop := fun l => ∃ a, l = .cell a ∧ (N + 4 ≤ a.block ∨ a.block + 1 = N)
/-- WHAT THE SENDER READS, and nobody writes while it runs. -/
structure Shared (N a b s : Nat) (w : World) : Prop where
  cw : w.cell? ⟨N, 0, none⟩ = some (.int .i64 a)
  ch : w.cell? ⟨N, 1, none⟩ = some (.int .i64 b)
  cs : w.cell? ⟨N + 1, 0, none⟩ = some (.int .i64 s)
  cc : w.cell? ⟨N + 3, 0, none⟩ = some (.chan (some (N + 2)))
theorem evB_cell {N : Nat} (a : Addr) (s : Bool) (h : N ≤ a.block ∧ a.block < N + 4) : EvB (Mine N) ⟨.cell a, false, s⟩ :=
  ⟨fun m => by simp, rfl, fun ⟨a', e, h'⟩ => by cases e; omega⟩
theorem uncons {n : Nat} {l : List Value} (h : l.length = n + 1) : ∃ v r, l = v :: r ∧ r.length = n := by
  cases l with
  | nil => simp at h
  | cons v r => exact ⟨v, r, rfl, by simpa using h⟩
theorem array36 (T : Array Value) (h : T.size = 36) : ∃ v0 v1 v2 v3 v4 v5 v6 v7 v8 v9 v10 v11 v12 v13 v14 v15 v16 v17 v18 v19 v20 v21 v22 v23 v24 v25 v26 v27 v28 v29 v30 v31 v32 v33 v34 v35 : Value, T = #[v0, v1, v2, v3, v4, v5, v6, v7, v8, v9, v10, v11, v12, v13, v14, v15, v16, v17, v18, v19, v20, v21, v22, v23, v24, v25, v26, v27, v28, v29, v30, v31, v32, v33, v34, v35] := by
  obtain ⟨l⟩ := T
  simp only [List.size_toArray] at h
  obtain ⟨v0, l0, rfl, h0⟩ := uncons h
  obtain ⟨v1, l1, rfl, h1⟩ := uncons h0
  obtain ⟨v2, l2, rfl, h2⟩ := uncons h1
  obtain ⟨v3, l3, rfl, h3⟩ := uncons h2
  obtain ⟨v4, l4, rfl, h4⟩ := uncons h3
  obtain ⟨v5, l5, rfl, h5⟩ := uncons h4
  obtain ⟨v6, l6, rfl, h6⟩ := uncons h5
  obtain ⟨v7, l7, rfl, h7⟩ := uncons h6
  obtain ⟨v8, l8, rfl, h8⟩ := uncons h7
  obtain ⟨v9, l9, rfl, h9⟩ := uncons h8
  obtain ⟨v10, l10, rfl, h10⟩ := uncons h9
  obtain ⟨v11, l11, rfl, h11⟩ := uncons h10
  obtain ⟨v12, l12, rfl, h12⟩ := uncons h11
  obtain ⟨v13, l13, rfl, h13⟩ := uncons h12
  obtain ⟨v14, l14, rfl, h14⟩ := uncons h13
  obtain ⟨v15, l15, rfl, h15⟩ := uncons h14
  obtain ⟨v16, l16, rfl, h16⟩ := uncons h15
  obtain ⟨v17, l17, rfl, h17⟩ := uncons h16
  obtain ⟨v18, l18, rfl, h18⟩ := uncons h17
  obtain ⟨v19, l19, rfl, h19⟩ := uncons h18
  obtain ⟨v20, l20, rfl, h20⟩ := uncons h19
  obtain ⟨v21, l21, rfl, h21⟩ := uncons h20
  obtain ⟨v22, l22, rfl, h22⟩ := uncons h21
  obtain ⟨v23, l23, rfl, h23⟩ := uncons h22
  obtain ⟨v24, l24, rfl, h24⟩ := uncons h23
  obtain ⟨v25, l25, rfl, h25⟩ := uncons h24
  obtain ⟨v26, l26, rfl, h26⟩ := uncons h25
  obtain ⟨v27, l27, rfl, h27⟩ := uncons h26
  obtain ⟨v28, l28, rfl, h28⟩ := uncons h27
  obtain ⟨v29, l29, rfl, h29⟩ := uncons h28
  obtain ⟨v30, l30, rfl, h30⟩ := uncons h29
  obtain ⟨v31, l31, rfl, h31⟩ := uncons h30
  obtain ⟨v32, l32, rfl, h32⟩ := uncons h31
  obtain ⟨v33, l33, rfl, h33⟩ := uncons h32
  obtain ⟨v34, l34, rfl, h34⟩ := uncons h33
  obtain ⟨v35, l35, rfl, h35⟩ := uncons h34
  obtain rfl := List.eq_nil_of_length_eq_zero h35
  exact ⟨v0, v1, v2, v3, v4, v5, v6, v7, v8, v9, v10, v11, v12, v13, v14, v15, v16, v17, v18, v19, v20, v21, v22, v23, v24, v25, v26, v27, v28, v29, v30, v31, v32, v33, v34, v35, rfl⟩
theorem loud30 : (Try.prog.funcs[b30.fn]?).any (·.norace) = false := by kernel_rfl
/-- The child's bottom frame, once its one call has been taken off it. -/
noncomputable def bot : Frame := { (default : Frame) with fn := Try.prog.funcs.size, defers := [], mode := .panicking [goexitEntry] }
def vB (b : EBucket) : Value := vBucket b.1 b.2.1 b.2.2.1 b.2.2.2
/-- What is still to be sent, from bucket k on. -/
def restB (a b s k : Nat) : List Value := ((bks a b s).drop k).map vB
def dcl (N : Nat) : Deferred := dclose #[74] 0 #[false] (N + 2)
section
variable (N a b s : Nat)
/-- THE ANCHOR: the inner loop's head. -/
def AnchB (x y : Nat) (g : Goroutine) : Prop :=
  ∃ T : Array Value, g = G (b30.at ⟨T, [dcl N]⟩ [.code Y30, .inLoop Y30, .inBlock 2, .inBlock 1, .code R3', .inLoop X30, .inBlock 0]) [bot] ∧ T.size = 36 ∧ T[0]? = some (.pointer (some ⟨N + 3, 0, none⟩)) ∧ T[1]? = some (.pointer (some ⟨N, 0, none⟩)) ∧
    T[2]? = some (.pointer (some ⟨N + 1, 0, none⟩)) ∧ T[3]? = some (.int .i64 (y : Int)) ∧ T[4]? = some (.int .i64 (x : Int))
/-- .. the outer loop's head. -/
def AnchA (y : Nat) (g : Goroutine) : Prop :=
  ∃ T : Array Value, g = G (b30.at ⟨T, [dcl N]⟩ [.code X30, .inLoop X30, .inBlock 0]) [bot] ∧ T.size = 36 ∧ T[0]? = some (.pointer (some ⟨N + 3, 0, none⟩)) ∧ T[1]? = some (.pointer (some ⟨N, 0, none⟩)) ∧
    T[2]? = some (.pointer (some ⟨N + 1, 0, none⟩)) ∧ T[3]? = some (.int .i64 (y : Int))

theorem restB_at {a b s u v : Nat} (hu : u < nb a s) (hv : v < nb b s) : restB a b s (v * nb a s + u) = vB ((s * u : Nat), (s * v : Nat), (min s (a - s * u) : Nat), (min s (b - s * v) : Nat)) :: restB a b s (v * nb a s + (u + 1)) := by
  have hk : v * nb a s + u < (bks a b s).length := by
    rw [bks_len]
    have h3 : (v + 1) * nb a s ≤ nb b s * nb a s := Nat.mul_le_mul_right _ (by omega)
    rw [Nat.succ_mul] at h3
    rw [Nat.mul_comm (nb a s)]
    omega
  unfold restB
  rw [List.drop_eq_getElem_cons hk, List.map_cons, bks_at hk]
  unfold bkAt
  have e1 : (v * nb a s + u) % nb a s = u := by rw [Nat.mul_comm, Nat.mul_add_mod, Nat.mod_eq_of_lt hu]
  have e2 : (v * nb a s + u) / nb a s = v := by rw [Nat.mul_comm, Nat.mul_add_div (by omega), Nat.div_eq_of_lt hu, Nat.add_zero]
  rw [e1, e2]
  rfl
theorem restB_end (a b s : Nat) : restB a b s (nb b s * nb a s) = [] := by
  unfold restB
  rw [List.drop_of_length_le (by rw [bks_len, Nat.mul_comm]; exact Nat.le_refl _)]
  rfl
@[go_sem] theorem events_min2 (P : Program) (ts : Array TypeId) (t : TypeId) (k k' : IntKind) (x y : Int) (w : World) (es : Array Event) : (Builtin.min_ ts t #[.int k x, .int k' y]).events P w es = es := by
  simp [Builtin.min_, Builtin.min2]
/-- Behind the close it only leaves. -/
theorem quits (T : Array Value) (ops : List Item) : QuitsIn Try.prog 2 (G { b30.at ⟨T, []⟩ ops with mode := .returning } [bot]) := by
  refine .inr ⟨rfl, G bot [], fun w => ?_, ?_⟩
  · simp [G, stepG, unwind, doReturn, results, Frame.at, b30, bot, Try.func30, Try.f30, seen, GStep.after, goexitEntry]
  refine .inr ⟨rfl, { G bot [] with status := .finished }, fun w => ?_, rfl⟩
  simp [G, stepG, unwind, bot, goexitEntry, Frame.catches]
  rfl
set_option maxRecDepth 100000 in
set_option maxHeartbeats 4000000 in
theorem seg_close (y : Nat) (hb : ¬ (y : Int) < (b : Int)) (g : Goroutine) (w : World) (h : AnchA N y g) : Goes Try.prog false (fun _ w₁ => Shared N a b s w₁) (DB (Mine N)) (StopB Try.prog (N + 2) (Shared N a b s) (Mine N) []) 40 g w := by
  obtain ⟨T, rfl, hT, t0, t1, t2, t3⟩ := h
  obtain ⟨v0, v1, v2, v3, v4, v5, v6, v7, v8, v9, v10, v11, v12, v13, v14, v15, v16, v17, v18, v19, v20, v21, v22, v23, v24, v25, v26, v27, v28, v29, v30, v31, v32, v33, v34, v35, rfl⟩ := array36 T hT
  simp only [List.getElem?_toArray, List.getElem?_cons_succ, List.getElem?_cons_zero, Option.some.injEq] at t0 t1 t2 t3
  subst t0 t1 t2 t3
  simp only [X30, body30, Try.f30, Option.getD_some]
  repeat (first
    | (refine Goes.step rfl (fun _ _ => ?_)
       walk_rw
       refine ⟨⟨rfl, by simp⟩, ?_⟩)
    | (refine Goes.step rfl (fun w₁ h₁ => ?_)
       refine goes_oper_k rfl rfl (by decide) (fun K hK => ?_)
       have hx1 := Shared.cw h₁
       have hx2 := Shared.ch h₁
       have hx3 := Shared.cs h₁
       have hx4 := Shared.cc h₁
       go_simp
       refine hK _ _ ⟨⟨rfl, fun e he => ?_⟩, ?_⟩
       · have hm := mem_listed he
         simp [go_sem, *] at hm
         try (subst hm; exact evB_cell _ _ (by first | (simp; done) | omega))
       clear hK K hx1 hx2 hx3 hx4 h₁))
  refine Goes.step rfl (fun _ _ => ?_)
  rw [stepG_cond (t := false) rfl]
  simp only [goes_go, if_true, if_false, Bool.false_eq_true, ↓reduceIte]
  refine ⟨⟨rfl, by simp⟩, ?_⟩
  refine Goes.step rfl (fun _ _ => ?_)
  apply goes_exit
  · rfl
  refine ⟨⟨rfl, by simp⟩, ?_⟩
  repeat (first
    | (refine Goes.step rfl (fun _ _ => ?_)
       walk_rw
       refine ⟨⟨rfl, by simp⟩, ?_⟩)
    | (refine Goes.step rfl (fun w₁ h₁ => ?_)
       refine goes_oper_k rfl rfl (by decide) (fun K hK => ?_)
       have hx1 := Shared.cw h₁
       have hx2 := Shared.ch h₁
       have hx3 := Shared.cs h₁
       have hx4 := Shared.cc h₁
       go_simp
       refine hK _ _ ⟨⟨rfl, fun e he => ?_⟩, ?_⟩
       · have hm := mem_listed he
         simp [go_sem, *] at hm
         try (subst hm; exact evB_cell _ _ (by first | (simp; done) | omega))
       clear hK K hx1 hx2 hx3 hx4 h₁))
  refine Goes.stop fun _ _ => ?_
  exact atClose_deferred rfl loud30 (fun ⟨a, h, _⟩ => by cases h) (quits _ _)
set_option maxRecDepth 100000 in
set_option maxHeartbeats 4000000 in
theorem seg_in (y n : Nat) (Stop : Goroutine → World → Prop) (hv : (y : Int) < (b : Int)) (next : ∀ g w, AnchB N 0 y g → Goes Try.prog false (fun _ w₁ => Shared N a b s w₁) (DB (Mine N)) Stop n g w) (g : Goroutine) (w : World) (h : AnchA N y g) : Goes Try.prog false (fun _ w₁ => Shared N a b s w₁) (DB (Mine N)) Stop (n + 24) g w := by
  obtain ⟨T, rfl, hT, t0, t1, t2, t3⟩ := h
  obtain ⟨v0, v1, v2, v3, v4, v5, v6, v7, v8, v9, v10, v11, v12, v13, v14, v15, v16, v17, v18, v19, v20, v21, v22, v23, v24, v25, v26, v27, v28, v29, v30, v31, v32, v33, v34, v35, rfl⟩ := array36 T hT
  simp only [List.getElem?_toArray, List.getElem?_cons_succ, List.getElem?_cons_zero, Option.some.injEq] at t0 t1 t2 t3
  subst t0 t1 t2 t3
  simp only [AnchB, Y30, R3', X30, body30, Try.f30, Option.getD_some] at next ⊢
  repeat (first
    | (refine Goes.step rfl (fun _ _ => ?_)
       walk_rw
       refine ⟨⟨rfl, by simp⟩, ?_⟩)
    | (refine Goes.step rfl (fun w₁ h₁ => ?_)
       refine goes_oper_k rfl rfl (by decide) (fun K hK => ?_)
       have hx1 := Shared.cw h₁
       have hx2 := Shared.ch h₁
       have hx3 := Shared.cs h₁
       have hx4 := Shared.cc h₁
       go_simp
       refine hK _ _ ⟨⟨rfl, fun e he => ?_⟩, ?_⟩
       · have hm := mem_listed he
         simp [go_sem, *] at hm
         try (subst hm; exact evB_cell _ _ (by first | (simp; done) | omega))
       clear hK K hx1 hx2 hx3 hx4 h₁))
  refine Goes.step rfl (fun _ _ => ?_)
  rw [stepG_cond (t := true) rfl]
  simp only [goes_go, if_true, if_false, Bool.false_eq_true, ↓reduceIte]
  refine ⟨⟨rfl, by simp⟩, ?_⟩
  repeat (first
    | (refine (next _ _ ⟨_, rfl, by simp, by simp, by simp, by simp, by simp, by simp⟩).mono ?_; omega)
    | (refine Goes.step rfl (fun _ _ => ?_)
       walk_rw
       refine ⟨⟨rfl, by simp⟩, ?_⟩)
    | (refine Goes.step rfl (fun w₁ h₁ => ?_)
       refine goes_oper_k rfl rfl (by decide) (fun K hK => ?_)
       have hx1 := Shared.cw h₁
       have hx2 := Shared.ch h₁
       have hx3 := Shared.cs h₁
       have hx4 := Shared.cc h₁
       go_simp
       refine hK _ _ ⟨⟨rfl, fun e he => ?_⟩, ?_⟩
       · have hm := mem_listed he
         simp [go_sem, *] at hm
         try (subst hm; exact evB_cell _ _ (by first | (simp; done) | omega))
       clear hK K hx1 hx2 hx3 hx4 h₁))
set_option maxRecDepth 100000 in
set_option maxHeartbeats 4000000 in
theorem seg_row (x y y' n : Nat) (Stop : Goroutine → World → Prop) (hu : ¬ (x : Int) < (a : Int)) (hw : IntKind.i64.wrap ((y : Int) + (s : Int)) = (y' : Int)) (next : ∀ g w, AnchA N y' g → Goes Try.prog false (fun _ w₁ => Shared N a b s w₁) (DB (Mine N)) Stop n g w) (g : Goroutine) (w : World) (h : AnchB N x y g) : Goes Try.prog false (fun _ w₁ => Shared N a b s w₁) (DB (Mine N)) Stop (n + 40) g w := by
  obtain ⟨T, rfl, hT, t0, t1, t2, t3, t4⟩ := h
  obtain ⟨v0, v1, v2, v3, v4, v5, v6, v7, v8, v9, v10, v11, v12, v13, v14, v15, v16, v17, v18, v19, v20, v21, v22, v23, v24, v25, v26, v27, v28, v29, v30, v31, v32, v33, v34, v35, rfl⟩ := array36 T hT
  simp only [List.getElem?_toArray, List.getElem?_cons_succ, List.getElem?_cons_zero, Option.some.injEq] at t0 t1 t2 t3 t4
  subst t0 t1 t2 t3 t4
  simp only [AnchA, Y30, R3', X30, body30, Try.f30, Option.getD_some] at next ⊢
  repeat (first
    | (refine Goes.step rfl (fun _ _ => ?_)
       walk_rw
       refine ⟨⟨rfl, by simp⟩, ?_⟩)
    | (refine Goes.step rfl (fun w₁ h₁ => ?_)
       refine goes_oper_k rfl rfl (by decide) (fun K hK => ?_)
       have hx1 := Shared.cw h₁
       have hx2 := Shared.ch h₁
       have hx3 := Shared.cs h₁
       have hx4 := Shared.cc h₁
       go_simp
       refine hK _ _ ⟨⟨rfl, fun e he => ?_⟩, ?_⟩
       · have hm := mem_listed he
         simp [go_sem, *] at hm
         try (subst hm; exact evB_cell _ _ (by first | (simp; done) | omega))
       clear hK K hx1 hx2 hx3 hx4 h₁))
  refine Goes.step rfl (fun _ _ => ?_)
  rw [stepG_cond (t := false) rfl]
  simp only [goes_go, if_true, if_false, Bool.false_eq_true, ↓reduceIte]
  refine ⟨⟨rfl, by simp⟩, ?_⟩
  refine Goes.step rfl (fun _ _ => ?_)
  apply goes_exit
  · rfl
  refine ⟨⟨rfl, by simp⟩, ?_⟩
  repeat (first
    | (refine (next _ _ ⟨_, rfl, by simp, by simp, by simp, by simp, by simp⟩).mono ?_; omega)
    | (refine Goes.step rfl (fun _ _ => ?_)
       walk_rw
       refine ⟨⟨rfl, by simp⟩, ?_⟩)
    | (refine Goes.step rfl (fun w₁ h₁ => ?_)
       refine goes_oper_k rfl rfl (by decide) (fun K hK => ?_)
       have hx1 := Shared.cw h₁
       have hx2 := Shared.ch h₁
       have hx3 := Shared.cs h₁
       have hx4 := Shared.cc h₁
       go_simp
       refine hK _ _ ⟨⟨rfl, fun e he => ?_⟩, ?_⟩
       · have hm := mem_listed he
         simp [go_sem, *] at hm
         try (subst hm; exact evB_cell _ _ (by first | (simp; done) | omega))
       clear hK K hx1 hx2 hx3 hx4 h₁))
set_option maxRecDepth 100000 in
set_option maxHeartbeats 4000000 in
theorem seg_send (x y x' r t n : Nat) (l : List Value) (hu : (x : Int) < (a : Int)) (h1 : IntKind.i64.wrap ((a : Int) - (x : Int)) = (r : Int)) (h2 : IntKind.i64.wrap ((b : Int) - (y : Int)) = (t : Int)) (h3 : IntKind.i64.wrap ((x : Int) + (s : Int)) = (x' : Int))
    (next : ∀ g w, AnchB N x' y g → Goes Try.prog false (fun _ w₁ => Shared N a b s w₁) (DB (Mine N)) (StopB Try.prog (N + 2) (Shared N a b s) (Mine N) l) n g w) (g : Goroutine) (w : World) (h : AnchB N x y g) :
    Goes Try.prog false (fun _ w₁ => Shared N a b s w₁) (DB (Mine N)) (StopB Try.prog (N + 2) (Shared N a b s) (Mine N) (vB (x, y, (min s r : Nat), (min s t : Nat)) :: l)) 60 g w := by
  obtain ⟨T, rfl, hT, t0, t1, t2, t3, t4⟩ := h
  obtain ⟨v0, v1, v2, v3, v4, v5, v6, v7, v8, v9, v10, v11, v12, v13, v14, v15, v16, v17, v18, v19, v20, v21, v22, v23, v24, v25, v26, v27, v28, v29, v30, v31, v32, v33, v34, v35, rfl⟩ := array36 T hT
  simp only [List.getElem?_toArray, List.getElem?_cons_succ, List.getElem?_cons_zero, Option.some.injEq] at t0 t1 t2 t3 t4
  subst t0 t1 t2 t3 t4
  simp only [AnchB, Y30, R3', X30, body30, Try.f30, Option.getD_some] at next ⊢
  repeat (first
    | (refine Goes.step rfl (fun _ _ => ?_)
       walk_rw
       refine ⟨⟨rfl, by simp⟩, ?_⟩)
    | (refine Goes.step rfl (fun w₁ h₁ => ?_)
       refine goes_oper_k rfl rfl (by decide) (fun K hK => ?_)
       have hx1 := Shared.cw h₁
       have hx2 := Shared.ch h₁
       have hx3 := Shared.cs h₁
       have hx4 := Shared.cc h₁
       go_simp
       refine hK _ _ ⟨⟨rfl, fun e he => ?_⟩, ?_⟩
       · have hm := mem_listed he
         simp [go_sem, *] at hm
         try (subst hm; exact evB_cell _ _ (by first | (simp; done) | omega))
       clear hK K hx1 hx2 hx3 hx4 h₁))
  refine Goes.step rfl (fun _ _ => ?_)
  rw [stepG_cond (t := true) rfl]
  simp only [goes_go, if_true, if_false, Bool.false_eq_true, ↓reduceIte]
  refine ⟨⟨rfl, by simp⟩, ?_⟩
  repeat (first
    | (refine Goes.step rfl (fun _ _ => ?_)
       walk_rw
       refine ⟨⟨rfl, by simp⟩, ?_⟩)
    | (refine Goes.step rfl (fun w₁ h₁ => ?_)
       refine goes_oper_k rfl rfl (by decide) (fun K hK => ?_)
       have hx1 := Shared.cw h₁
       have hx2 := Shared.ch h₁
       have hx3 := Shared.cs h₁
       have hx4 := Shared.cc h₁
       go_simp
       refine hK _ _ ⟨⟨rfl, fun e he => ?_⟩, ?_⟩
       · have hm := mem_listed he
         simp [go_sem, *] at hm
         try (subst hm; exact evB_cell _ _ (by first | (simp; done) | omega))
       clear hK K hx1 hx2 hx3 hx4 h₁))
  refine Goes.stop fun _ _ => ?_
  show AtSend _ _ _ _ _ (Sends _ _ _ _ l) _
  refine atSend_of rfl rfl (by decide) rfl rfl (by simp [Act.eval, vB]; refine ⟨?_, ?_⟩ <;> (split <;> omega)) ?_
  refine (sends_iff ..).2 ⟨n + 30, ?_⟩
  walk_nrm
  repeat (first
    | (refine (next _ _ ⟨_, rfl, by simp, by simp, by simp, by simp, by simp, by simp⟩).mono ?_; omega)
    | (refine Goes.step rfl (fun _ _ => ?_)
       walk_rw
       refine ⟨⟨rfl, by simp⟩, ?_⟩)
    | (refine Goes.step rfl (fun w₁ h₁ => ?_)
       refine goes_oper_k rfl rfl (by decide) (fun K hK => ?_)
       have hx1 := Shared.cw h₁
       have hx2 := Shared.ch h₁
       have hx3 := Shared.cs h₁
       have hx4 := Shared.cc h₁
       go_simp
       refine hK _ _ ⟨⟨rfl, fun e he => ?_⟩, ?_⟩
       · have hm := mem_listed he
         simp [go_sem, *] at hm
         try (subst hm; exact evB_cell _ _ (by first | (simp; done) | omega))
       clear hK K hx1 hx2 hx3 hx4 h₁))
/-- The call that the go statement holds. -/
def call30 : Deferred := { target := .fn (.func 30) #[.pointer (some ⟨N + 3, 0, none⟩), .pointer (some ⟨N, 0, none⟩), .pointer (some ⟨N + 1, 0, none⟩)], args := #[] }
theorem born30 (w : World) : ∃ T : Array Value, T.size = 36 ∧ T[0]? = some (.pointer (some ⟨N + 3, 0, none⟩)) ∧ T[1]? = some (.pointer (some ⟨N, 0, none⟩)) ∧ T[2]? = some (.pointer (some ⟨N + 1, 0, none⟩)) ∧
    ∀ w, stepG Try.prog false (born Try.prog (call30 N)) w = .go (G (b30.at ⟨T, []⟩ [.code body30]) [bot]) w #[] := by
  refine ⟨#[.pointer (some ⟨N + 3, 0, none⟩), .pointer (some ⟨N, 0, none⟩), .pointer (some ⟨N + 1, 0, none⟩)] ++ Array.replicate 33 undef, by simp, by simp, by simp, by simp, fun w => ?_⟩
  simp [born, call30, stepG, unwind, callDeferred, invoke, callFunc, Try.func30, Try.f30, seen, GStep.after, G, Frame.enter, Frame.at, b30, bot, body30]
set_option maxRecDepth 100000 in
set_option maxHeartbeats 4000000 in
/-- From the entry to the outer loop's head. -/
theorem seg_born (n : Nat) (Stop : Goroutine → World → Prop) (next : ∀ g w, AnchA N 0 g → Goes Try.prog false (fun _ w₁ => Shared N a b s w₁) (DB (Mine N)) Stop n g w) (T : Array Value) (hT : T.size = 36) (t0 : T[0]? = some (.pointer (some ⟨N + 3, 0, none⟩))) (t1 : T[1]? = some (.pointer (some ⟨N, 0, none⟩))) (t2 : T[2]? = some (.pointer (some ⟨N + 1, 0, none⟩))) (w : World) :
    Goes Try.prog false (fun _ w₁ => Shared N a b s w₁) (DB (Mine N)) Stop (n + 24) (G (b30.at ⟨T, []⟩ [.code body30]) [bot]) w := by
  obtain ⟨v0, v1, v2, v3, v4, v5, v6, v7, v8, v9, v10, v11, v12, v13, v14, v15, v16, v17, v18, v19, v20, v21, v22, v23, v24, v25, v26, v27, v28, v29, v30, v31, v32, v33, v34, v35, rfl⟩ := array36 T hT
  simp only [List.getElem?_toArray, List.getElem?_cons_succ, List.getElem?_cons_zero, Option.some.injEq] at t0 t1 t2
  subst t0 t1 t2
  simp only [AnchA, X30, body30, Try.f30, Option.getD_some] at next ⊢
  repeat (first
    | (refine (next _ _ ⟨_, rfl, by simp, by simp, by simp, by simp, by simp⟩).mono ?_; omega)
    | (refine Goes.step rfl (fun _ _ => ?_)
       walk_rw
       refine ⟨⟨rfl, by simp⟩, ?_⟩)
    | (refine Goes.step rfl (fun w₁ h₁ => ?_)
       refine goes_oper_k rfl rfl (by decide) (fun K hK => ?_)
       have hx1 := Shared.cw h₁
       have hx2 := Shared.ch h₁
       have hx3 := Shared.cs h₁
       have hx4 := Shared.cc h₁
       go_simp
       refine hK _ _ ⟨⟨rfl, fun e he => ?_⟩, ?_⟩
       · have hm := mem_listed he
         simp [go_sem, *] at hm
         try (subst hm; exact evB_cell _ _ (by first | (simp; done) | omega))
       clear hK K hx1 hx2 hx3 hx4 h₁)
    | (refine Goes.step rfl (fun w₁ h₁ => ?_); rw [stepG_defer_by (d := dcl N) rfl rfl (by decide) (by simp [execOp, resolve, dcl, dclose, Act.eval]) (by simp [execOp, resolve])]; simp only [goes_go]; refine ⟨⟨rfl, by simp⟩, ?_⟩))
end
end Go.Proofs.Ythpanpedoeghoaa
namespace Go.Proofs.Ythpanpedoeghoaa
open Go.Conc Go.RowKit Go.Proofs.Ythpanpedoeghoaa.Lift
set_option linter.unusedVariables false
section
variable (N a b s : Nat)
theorem wrap_nat {x : Int} {n : Nat} (h : x = n) (hn : n ≤ 1000000) : IntKind.i64.wrap x = (n : Int) := by rw [IntKind.wrap_i64]; omega
theorem sends_from (ha : 1 ≤ a ∧ a ≤ 12) (hb : 1 ≤ b ∧ b ≤ 12) (hs : 1 ≤ s ∧ s ≤ 5) : ∀ (m u v : Nat), u ≤ nb a s → v < nb b s → v * nb a s + u + m = nb b s * nb a s →
    ∃ n', ∀ g w, AnchB N (s * u) (s * v) g → Goes Try.prog false (fun _ w₁ => Shared N a b s w₁) (DB (Mine N)) (StopB Try.prog (N + 2) (Shared N a b s) (Mine N) (restB a b s (v * nb a s + u))) n' g w := by
  have hpa : 0 < nb a s := (lt_nb hs.1).2 (by omega)
  intro m
  induction m with
  | zero =>
    intro u v hu hv hm
    have hv' : v + 1 = nb b s := by
      rcases Nat.lt_or_ge (v + 1) (nb b s) with h | h
      · have h3 : (v + 1 + 1) * nb a s ≤ nb b s * nb a s := Nat.mul_le_mul_right _ h
        rw [Nat.succ_mul, Nat.succ_mul] at h3
        omega
      · omega
    have hu' : u = nb a s := by rw [← hv', Nat.succ_mul] at hm; omega
    subst hu'
    have hsv := (lt_nb (n := b) hs.1).1 hv
    refine ⟨40 + 40, fun g w h => ?_⟩
    have e : v * nb a s + nb a s = nb b s * nb a s := by omega
    rw [e, restB_end]
    refine seg_row N a b s (s * nb a s) (s * v) (s * (v + 1)) 40 _ (by have := mt (lt_nb (n := a) hs.1).2 (Nat.lt_irrefl (nb a s)); omega) (wrap_nat (by rw [Nat.mul_succ]; omega) (by rw [Nat.mul_succ]; omega)) (fun g w h => ?_) g w h
    rw [hv'] at h
    exact seg_close N a b s (s * nb b s) (by have := mt (lt_nb (n := b) hs.1).2 (Nat.lt_irrefl (nb b s)); omega) g w h
  | succ m ih =>
    have one : ∀ u v, u < nb a s → v < nb b s → v * nb a s + u + (m + 1) = nb b s * nb a s → ∃ n', ∀ g w, AnchB N (s * u) (s * v) g → Goes Try.prog false (fun _ w₁ => Shared N a b s w₁) (DB (Mine N)) (StopB Try.prog (N + 2) (Shared N a b s) (Mine N) (restB a b s (v * nb a s + u))) n' g w := by
      intro u v hu hv hm
      obtain ⟨n, hn⟩ := ih (u + 1) v hu hv (by omega)
      have hsu := (lt_nb (n := a) hs.1).1 hu
      have hsv := (lt_nb (n := b) hs.1).1 hv
      refine ⟨60, fun g w h => ?_⟩
      rw [restB_at hu hv]
      exact seg_send N a b s (s * u) (s * v) (s * (u + 1)) (a - s * u) (b - s * v) n _ (by omega) (wrap_nat (by omega) (by omega)) (wrap_nat (by omega) (by omega)) (wrap_nat (by rw [Nat.mul_succ]; omega) (by rw [Nat.mul_succ]; omega)) hn g w h
    intro u v hu hv hm
    rcases Nat.lt_or_ge u (nb a s) with h | h
    · exact one u v h hv hm
    · obtain rfl : u = nb a s := by omega
      have hv' : v + 1 < nb b s := by
        rcases Nat.lt_or_ge (v + 1) (nb b s) with h | h
        · exact h
        · have h3 : nb b s * nb a s ≤ (v + 1) * nb a s := Nat.mul_le_mul_right _ h
          rw [Nat.succ_mul] at h3
          omega
      obtain ⟨n, hn⟩ := one 0 (v + 1) hpa hv' (by rw [Nat.succ_mul]; omega)
      have hsv := (lt_nb (n := b) hs.1).1 hv
      have hsv' := (lt_nb (n := b) hs.1).1 hv'
      refine ⟨(n + 24) + 40, fun g w h => ?_⟩
      refine seg_row N a b s (s * nb a s) (s * v) (s * (v + 1)) (n + 24) _ (by have := mt (lt_nb (n := a) hs.1).2 (Nat.lt_irrefl (nb a s)); omega) (wrap_nat (by rw [Nat.mul_succ]; omega) (by rw [Nat.mul_succ]; omega)) (fun g w h => ?_) g w h
      refine seg_in N a b s (s * (v + 1)) n _ (by omega) (fun g w h => ?_) g w h
      have e : v * nb a s + nb a s = (v + 1) * nb a s + 0 := by rw [Nat.succ_mul, Nat.add_zero]
      rw [e]
      exact hn g w h
/-- THE SENDER's SCRIPT, WHOLE. -/
theorem sends_all (ha : 1 ≤ a ∧ a ≤ 12) (hb : 1 ≤ b ∧ b ≤ 12) (hs : 1 ≤ s ∧ s ≤ 5) : Sends Try.prog (N + 2) (Shared N a b s) (Mine N) ((bks a b s).map vB) (born Try.prog (call30 N)) := by
  have hpb : 0 < nb b s := (lt_nb hs.1).2 (by omega)
  obtain ⟨n, hn⟩ := sends_from N a b s ha hb hs (nb b s * nb a s) 0 0 (Nat.zero_le _) hpb (by omega)
  obtain ⟨T, hT, t0, t1, t2, hst⟩ := born30 N default
  refine (sends_iff ..).2 ⟨(n + 24) + 24 + 1, Goes.step rfl fun w₁ _ => ?_⟩
  rw [hst]
  refine ⟨⟨rfl, by simp⟩, ?_⟩
  refine seg_born N a b s (n + 24) _ (fun g w h => ?_) T hT t0 t1 t2 w₁
  refine seg_in N a b s 0 n _ (by omega) (fun g w h => ?_) g w h
  have := hn g w h
  rw [Nat.zero_mul, Nat.zero_add] at this
  exact this
end
end Go.Proofs.Ythpanpedoeghoaa
namespace Go.Proofs.Ythpanpedoeghoaa
open Go.Conc Go.RowKit Go.Proofs.Ythpanpedoeghoaa.Lift
set_option linter.unusedVariables false
set_option linter.unusedSimpArgs false
noncomputable def body5 : Code := Try.f5.body.getD .skip
noncomputable def tail5 : Code := match body5 with | .seq _ (.seq _ (.seq _ (.seq _ r))) => r | _ => .skip
noncomputable def B5 : Code := match body5 with | .seq _ (.seq _ (.seq _ (.seq (.seq _ c) _))) => c | _ => .skip
noncomputable def ops54 : Array Oper := match body5 with | .seq _ (.seq _ (.seq _ (.seq (.seq (.region _ ops _) _) _))) => ops | _ => #[]
noncomputable def L5 : Code := match B5 with | .block _ (.loop c) => c | _ => .skip
noncomputable def ops55 : Array Oper := match L5 with | .seq (.region _ ops _) _ => ops | _ => #[]
noncomputable def L5b : Code := match L5 with | .seq _ r => r | _ => .skip
noncomputable def body16 : Code := Try.f16.body.getD .skip
noncomputable def ops162 : Array Oper := match body16 with | .seq _ (.seq _ (.seq (.region _ ops _) _)) => ops | _ => #[]
noncomputable def tail16 : Code := match body16 with | .seq _ (.seq _ (.seq _ r)) => r | _ => .skip
theorem array9 (T : Array Value) (h : T.size = 9) : ∃ v0 v1 v2 v3 v4 v5 v6 v7 v8 : Value, T = #[v0, v1, v2, v3, v4, v5, v6, v7, v8] := by
  obtain ⟨l⟩ := T
  simp only [List.size_toArray] at h
  obtain ⟨v0, l0, rfl, h0⟩ := uncons h
  obtain ⟨v1, l1, rfl, h1⟩ := uncons h0
  obtain ⟨v2, l2, rfl, h2⟩ := uncons h1
  obtain ⟨v3, l3, rfl, h3⟩ := uncons h2
  obtain ⟨v4, l4, rfl, h4⟩ := uncons h3
  obtain ⟨v5, l5, rfl, h5⟩ := uncons h4
  obtain ⟨v6, l6, rfl, h6⟩ := uncons h5
  obtain ⟨v7, l7, rfl, h7⟩ := uncons h6
  obtain ⟨v8, l8, rfl, h8⟩ := uncons h7
  obtain rfl := List.eq_nil_of_length_eq_zero h8
  exact ⟨_, _, _, _, _, _, _, _, _, rfl⟩
theorem array27 (T : Array Value) (h : T.size = 27) : ∃ v0 v1 v2 v3 v4 v5 v6 v7 v8 v9 v10 v11 v12 v13 v14 v15 v16 v17 v18 v19 v20 v21 v22 v23 v24 v25 v26 : Value, T = #[v0, v1, v2, v3, v4, v5, v6, v7, v8, v9, v10, v11, v12, v13, v14, v15, v16, v17, v18, v19, v20, v21, v22, v23, v24, v25, v26] := by
  obtain ⟨l⟩ := T
  simp only [List.size_toArray] at h
  obtain ⟨v0, l0, rfl, h0⟩ := uncons h
  obtain ⟨v1, l1, rfl, h1⟩ := uncons h0
  obtain ⟨v2, l2, rfl, h2⟩ := uncons h1
  obtain ⟨v3, l3, rfl, h3⟩ := uncons h2
  obtain ⟨v4, l4, rfl, h4⟩ := uncons h3
  obtain ⟨v5, l5, rfl, h5⟩ := uncons h4
  obtain ⟨v6, l6, rfl, h6⟩ := uncons h5
  obtain ⟨v7, l7, rfl, h7⟩ := uncons h6
  obtain ⟨v8, l8, rfl, h8⟩ := uncons h7
  obtain ⟨v9, l9, rfl, h9⟩ := uncons h8
  obtain ⟨v10, l10, rfl, h10⟩ := uncons h9
  obtain ⟨v11, l11, rfl, h11⟩ := uncons h10
  obtain ⟨v12, l12, rfl, h12⟩ := uncons h11
  obtain ⟨v13, l13, rfl, h13⟩ := uncons h12
  obtain ⟨v14, l14, rfl, h14⟩ := uncons h13
  obtain ⟨v15, l15, rfl, h15⟩ := uncons h14
  obtain ⟨v16, l16, rfl, h16⟩ := uncons h15
  obtain ⟨v17, l17, rfl, h17⟩ := uncons h16
  obtain ⟨v18, l18, rfl, h18⟩ := uncons h17
  obtain ⟨v19, l19, rfl, h19⟩ := uncons h18
  obtain ⟨v20, l20, rfl, h20⟩ := uncons h19
  obtain ⟨v21, l21, rfl, h21⟩ := uncons h20
  obtain ⟨v22, l22, rfl, h22⟩ := uncons h21
  obtain ⟨v23, l23, rfl, h23⟩ := uncons h22
  obtain ⟨v24, l24, rfl, h24⟩ := uncons h23
  obtain ⟨v25, l25, rfl, h25⟩ := uncons h24
  obtain ⟨v26, l26, rfl, h26⟩ := uncons h25
  obtain rfl := List.eq_nil_of_length_eq_zero h26
  exact ⟨_, _, _, _, _, _, _, _, _, _, _, _, _, _, _, _, _, _, _, _, _, _, _, _, _, _, _, rfl⟩

/-- WHAT THE RECEIVER KNOWS OF THE WORLD behind the go statement. 'W': the world ahead of the row's first block, of 'M' blocks. -/
structure AF (M : Nat) (W : World) (A : Option Addr) (n c : Nat) (xs : List Value) (w : World) : Prop where
  own : Grow w M 36 4 A n c xs
  ob : ∀ k, k ∈ gOf A → k = M ∨ M + 5 ≤ k
  below : Below M W w
  size : M + 5 ≤ w.heap.size
  chv : w.cell? ⟨M + 4, 0, none⟩ = some (.chan (some (M + 3)))
theorem AF.aside {M n c : Nat} {W : World} {A : Option Addr} {xs : List Value} {w w₁ : World} (h : AF M W A n c xs w) (ha : Aside (M + 3) w w₁) : AF M W A n c xs w₁ :=
  ⟨h.own.keep (fun x hx => ha.block x (by have := h.ob x hx; omega)), h.ob, ⟨ha.os.trans h.below.os, ha.tape.trans h.below.tape, ha.output.trans h.below.output, by rw [ha.size]; exact h.below.size, fun k hk => (ha.block k (by omega)).trans (h.below.block k hk)⟩, by rw [ha.size]; exact h.size,
    (World.cell?_of_block (ha.block (M + 4) (by omega))).trans h.chv⟩
theorem AF.up {M n c : Nat} {W : World} {A : Option Addr} {xs : List Value} {w w₁ : World} (h : AF M W A n c xs w) (hb : Below (M + 5) w w₁) (hk : ∀ k, k ∈ gOf A → w₁.heap[k]? = w.heap[k]?) : AF M W A n c xs w₁ :=
  ⟨h.own.keep hk, h.ob, h.below.trans (hb.mono (by omega)), Nat.le_trans h.size hb.size, (hb.cell (by simp)).trans h.chv⟩
theorem Shared.aside {N a b s : Nat} {w w₁ : World} (ha : Aside (N + 2) w w₁) (h : Shared N a b s w) : Shared N a b s w₁ :=
  ⟨(World.cell?_of_block (ha.block N (by omega))).trans h.cw, (World.cell?_of_block (ha.block N (by omega))).trans h.ch, (World.cell?_of_block (ha.block (N + 1) (by omega))).trans h.cs, (World.cell?_of_block (ha.block (N + 3) (by omega))).trans h.cc⟩
theorem DA_of_below {M a b s : Nat} {w w' : World} {es : Array Event} (h : Below (M + 5) w w') (he : ∀ e ∈ es, EvA (Mine (M + 1)) e) : DA (M + 3) (Shared (M + 1) a b s) (Mine (M + 1)) w w' es :=
  ⟨fun hS => ⟨(h.cell (by simp)).trans hS.cw, (h.cell (by simp)).trans hS.ch, (h.cell (by simp)).trans hS.cs, (h.cell (by simp)).trans hS.cc⟩, h.block (M + 3) (by omega), he⟩
theorem DA_of_app {M a b s : Nat} {w w' : World} {es : Array Event} {A : Option Addr} (hg : w.grownBy w' (A.map (·.block))) (hs : M + 5 ≤ w.heap.size) (ho : ∀ k, k ∈ gOf A → k = M ∨ M + 5 ≤ k) (he : ∀ e ∈ es, EvA (Mine (M + 1)) e) : DA (M + 3) (Shared (M + 1) a b s) (Mine (M + 1)) w w' es := by
  have hk : ∀ k, M < k → k < M + 5 → w'.heap[k]? = w.heap[k]? := fun k h1 h2 => hg.block k (by omega) (by
    cases A with
    | none => simp
    | some ad => have := ho ad.block (by simp [gOf]); simp; omega)
  exact ⟨fun hS => ⟨(World.cell?_of_block (hk _ (by simp) (by simp))).trans hS.cw, (World.cell?_of_block (hk _ (by simp) (by simp))).trans hS.ch, (World.cell?_of_block (hk _ (by simp; omega) (by simp))).trans hS.cs, (World.cell?_of_block (hk _ (by simp; omega) (by simp))).trans hS.cc⟩, hk (M + 3) (by omega) (by omega), he⟩
theorem evA_read {N : Nat} (l : Loc) (s : Bool) (h : ∀ m, l = .mark m → Neutral m) : EvA (Mine N) ⟨l, false, s⟩ := ⟨h, fun h => by cases h⟩
theorem evA_own {N : Nat} (a : Addr) (w s : Bool) (h : N + 4 ≤ a.block ∨ a.block + 1 = N) : EvA (Mine N) ⟨.cell a, w, s⟩ := ⟨fun m => by simp, fun _ => ⟨a, rfl, h⟩⟩
theorem uponK_append {P : Program} {o : Oper} {a : Act} {K : Act → World → Prop} {w w' : World} {v xv v' : Value} (s x : Operand) (t : TypeId)
    (ho : o.op = .call { callee := .builtin .append, args := #[s, x], argTypes := #[t, t] }) (hs : a.eval s = v) (hx : a.eval x = xv)
    (hr : (Builtin.append_ #[t, t] o.type #[v, xv]).run P w = .ok v' w') (h : K (a.put o.dst v') w') : uponK o a K ((execOp a.eval o).run P w) := by
  unfold execOp
  simp only [ho, resolve, invoke, builtin, Sem.run_bind, Sem.run_pure, Result.andThen_ok, List.map_toArray, List.map_cons, List.map_nil, hs, hx, hr]
  exact h
theorem events_append_op {P : Program} {o : Oper} {a : Act} {w : World} {v xv : Value} (s x : Operand) (t : TypeId)
    (ho : o.op = .call { callee := .builtin .append, args := #[s, x], argTypes := #[t, t] }) (hs : a.eval s = v) (hx : a.eval x = xv) (es : Array Event) :
    (execOp a.eval o).events P w es = (Builtin.append_ #[t, t] o.type #[v, xv]).events P w es := by
  unfold execOp
  simp only [ho, resolve, invoke, builtin, Sem.events_bind, Sem.run_pure, Sem.events_pure, Result.evThen_ok, List.map_toArray, List.map_cons, List.map_nil, hs, hx]
  cases (Builtin.append_ #[t, t] o.type #[v, xv]).run P w <;> rfl
theorem T.infoBk : (Try.prog.info? 36).map (fun i => (i.zero, i.size, i.bytes)) = some (some (vBucket 0 0 0 0), 4, 32) := by kernel_rfl
section
variable (M : Nat) (W : World) (a b s : Nat) (F3 : Frame)
noncomputable def atRecv5 (T : Array Value) (rest : List Nat) : Goroutine := G ((base 5).at ⟨T, []⟩ [.inRegion ops55 rest, .code L5b, .inLoop L5, .inBlock 0, .code tail5]) [F3]
def AtRv (A : Option Addr) (n c : Nat) (T : Array Value) : Prop := T.size = 27 ∧ T[5]? = some (.slice A n c) ∧ T[18]? = some (.chan (some (M + 3)))

set_option maxRecDepth 100000 in
set_option maxHeartbeats 4000000 in
/-- From behind the receive that found the channel closed: to the return. -/
theorem seg_a3 (n₀ : Nat) (Stop : Goroutine → World → Prop) (A : Option Addr) (n c : Nat) (xs : List Value) (T : Array Value) (hT : AtRv M A n c T) (h19 : T[19]? = some (.tuple #[vBucket 0 0 0 0, .bool false])) (w : World) (hF : AF M W A n c xs w)
    (stop : ∀ (T : Array Value) (k : List Item) w', T.size = 27 → T[4]? = some (.slice A n c) → AF M W A n c xs w' → Goes Try.prog true (Aside (M + 3)) (DA (M + 3) (Shared (M + 1) a b s) (Mine (M + 1))) Stop n₀ (G { (base 5).at ⟨T, []⟩ k with mode := .returning } [F3]) w') :
    Goes Try.prog true (Aside (M + 3)) (DA (M + 3) (Shared (M + 1) a b s) (Mine (M + 1))) Stop (n₀ + 30) (atRecv5 F3 T [1]) w := by
  obtain ⟨hT, t5, t18⟩ := hT
  obtain ⟨v0, v1, v2, v3, v4, v5, v6, v7, v8, v9, v10, v11, v12, v13, v14, v15, v16, v17, v18, v19, v20, v21, v22, v23, v24, v25, v26, rfl⟩ := array27 T hT
  simp only [List.getElem?_toArray, List.getElem?_cons_succ, List.getElem?_cons_zero, Option.some.injEq] at t5 t18 h19
  subst t5 t18 h19
  simp only [atRecv5, ops55, L5b, L5, B5, tail5, body5, Try.f5, Option.getD_some]
  repeat (first
    | (refine Goes.step rfl (fun _ h₁ => ?_)
       walk_rw
       refine ⟨DA_of_below (Below.refl _ _) (by simp), ?_⟩
       replace hF := AF.aside hF h₁
       clear h₁)
    | (refine Goes.step rfl (fun _ h₁ => ?_)
       replace hF := AF.aside hF h₁
       clear h₁
       refine goes_oper_k rfl rfl (by decide) (fun K hK => ?_)
       have hch := AF.chv hF
       go_simp
       refine hK _ _ ⟨DA_of_below (Below.refl _ _) (fun e he => ?_), ?_⟩
       · have hm := mem_listed he
         simp [go_sem, *] at hm
         try (subst hm; exact evA_read _ _ (by simp))
       clear hK K hch))
  refine Goes.step rfl (fun _ h₁ => ?_)
  rw [stepG_cond (t := false) rfl]
  simp only [goes_go, if_true, if_false, Bool.false_eq_true, ↓reduceIte]
  refine ⟨DA_of_below (Below.refl _ _) (by simp), ?_⟩
  replace hF := AF.aside hF h₁
  clear h₁
  refine Goes.step rfl (fun _ h₁ => ?_)
  apply goes_exit
  · rfl
  refine ⟨DA_of_below (Below.refl _ _) (by simp), ?_⟩
  replace hF := AF.aside hF h₁
  clear h₁
  repeat (first
    | (refine (stop _ _ _ ?_ ?_ hF).mono ?_ <;> first | (simp; done) | omega)
    | (refine Goes.step rfl (fun _ h₁ => ?_)
       walk_rw
       refine ⟨DA_of_below (Below.refl _ _) (by simp), ?_⟩
       replace hF := AF.aside hF h₁
       clear h₁)
    | (refine Goes.step rfl (fun _ h₁ => ?_)
       replace hF := AF.aside hF h₁
       clear h₁
       refine goes_oper_k rfl rfl (by decide) (fun K hK => ?_)
       have hch := AF.chv hF
       go_simp
       refine hK _ _ ⟨DA_of_below (Below.refl _ _) (fun e he => ?_), ?_⟩
       · have hm := mem_listed he
         simp [go_sem, *] at hm
         try (subst hm; exact evA_read _ _ (by simp))
       clear hK K hch))
set_option maxRecDepth 100000 in
set_option maxHeartbeats 4000000 in
/-- From behind the go statement to the first receive. -/
theorem seg_a1 (n₀ : Nat) (Stop : Goroutine → World → Prop) (A : Option Addr) (n c : Nat) (xs : List Value) (T16 T5 : Array Value) (h16 : T16.size = 9) (h165 : T16[5]? = some (.pointer (some ⟨M + 4, 0, none⟩))) (h5 : T5.size = 27) (h55 : T5[5]? = some (.slice A n c)) (w : World) (hF : AF M W A n c xs w)
    (next : ∀ (T : Array Value) w', AtRv M A n c T → AF M W A n c xs w' → Goes Try.prog true (Aside (M + 3)) (DA (M + 3) (Shared (M + 1) a b s) (Mine (M + 1))) Stop n₀ (atRecv5 F3 T [0, 1]) w') :
    Goes Try.prog true (Aside (M + 3)) (DA (M + 3) (Shared (M + 1) a b s) (Mine (M + 1))) Stop (n₀ + 40) (G ((base 16).at ⟨T16, []⟩ [.inRegion ops162 [], .code tail16]) [(base 5).at ⟨T5, []⟩ [.inRegion ops54 [2], .code B5, .code tail5], F3]) w := by
  obtain ⟨v0, v1, v2, v3, v4, v5, v6, v7, v8, rfl⟩ := array9 T16 h16
  obtain ⟨u0, u1, u2, u3, u4, u5, u6, u7, u8, u9, u10, u11, u12, u13, u14, u15, u16, u17, u18, u19, u20, u21, u22, u23, u24, u25, u26, rfl⟩ := array27 T5 h5
  simp only [List.getElem?_toArray, List.getElem?_cons_succ, List.getElem?_cons_zero, Option.some.injEq] at h165 h55
  subst h165 h55
  simp only [atRecv5, AtRv, ops55, L5b, L5, B5, tail5, body5, ops54, body16, ops162, tail16, Try.f16, Try.f5, Option.getD_some] at next ⊢
  repeat (first
    | (refine Goes.step rfl (fun _ h₁ => ?_)
       walk_rw
       refine ⟨DA_of_below (Below.refl _ _) (by simp), ?_⟩
       replace hF := AF.aside hF h₁
       clear h₁)
    | (refine Goes.step rfl (fun _ h₁ => ?_)
       replace hF := AF.aside hF h₁
       clear h₁
       refine goes_oper_k rfl rfl (by decide) (fun K hK => ?_)
       have hch := AF.chv hF
       go_simp
       refine hK _ _ ⟨DA_of_below (Below.refl _ _) (fun e he => ?_), ?_⟩
       · have hm := mem_listed he
         simp [go_sem, *] at hm
         try (subst hm; exact evA_read _ _ (by simp))
       clear hK K hch))
  refine Goes.step rfl (fun _ h₁ => ?_)
  rw [stepG_leave (v := .chan (some (M + 3))) rfl rfl Try.func16 (by simp [results, Try.results16, go_sem]) (by simp [results, Try.results16, go_sem])]
  simp only [goes_go]
  refine ⟨DA_of_below (Below.refl _ _) (by simp), ?_⟩
  replace hF := AF.aside hF h₁
  clear h₁
  rw [Frame.finish_at]
  walk_nrm
  repeat (first
    | (refine (next _ _ ?_ hF).mono ?_ <;> first | (simp; done) | omega)
    | (refine Goes.step rfl (fun _ h₁ => ?_)
       walk_rw
       refine ⟨DA_of_below (Below.refl _ _) (by simp), ?_⟩
       replace hF := AF.aside hF h₁
       clear h₁)
    | (refine Goes.step rfl (fun _ h₁ => ?_)
       replace hF := AF.aside hF h₁
       clear h₁
       refine goes_oper_k rfl rfl (by decide) (fun K hK => ?_)
       have hch := AF.chv hF
       go_simp
       refine hK _ _ ⟨DA_of_below (Below.refl _ _) (fun e he => ?_), ?_⟩
       · have hm := mem_listed he
         simp [go_sem, *] at hm
         try (subst hm; exact evA_read _ _ (by simp))
       clear hK K hch))

set_option maxRecDepth 100000 in
set_option maxHeartbeats 4000000 in
/-- ONE ROUND: from behind the receive of a bucket to the next receive. -/
theorem seg_a2 (n₀ : Nat) (Stop : Goroutine → World → Prop) (A : Option Addr) (n c : Nat) (xs : List Value) (e : EBucket) (hlen : (n + 1) * 32 ≤ 1000000) (T : Array Value) (hT : AtRv M A n c T) (h19 : T[19]? = some (.tuple #[vB e, .bool true])) (w : World) (hF : AF M W A n c xs w)
    (next : ∀ (A' : Option Addr) (c' : Nat) (T : Array Value) w', AtRv M A' (n + 1) c' T → AF M W A' (n + 1) c' (xs ++ [.int .i64 e.1, .int .i64 e.2.1, .int .i64 e.2.2.1, .int .i64 e.2.2.2]) w' → Goes Try.prog true (Aside (M + 3)) (DA (M + 3) (Shared (M + 1) a b s) (Mine (M + 1))) Stop n₀ (atRecv5 F3 T [0, 1]) w') :
    Goes Try.prog true (Aside (M + 3)) (DA (M + 3) (Shared (M + 1) a b s) (Mine (M + 1))) Stop (n₀ + 60) (atRecv5 F3 T [1]) w := by
  obtain ⟨hT, t5, t18⟩ := hT
  obtain ⟨v0, v1, v2, v3, v4, v5, v6, v7, v8, v9, v10, v11, v12, v13, v14, v15, v16, v17, v18, v19, v20, v21, v22, v23, v24, v25, v26, rfl⟩ := array27 T hT
  simp only [List.getElem?_toArray, List.getElem?_cons_succ, List.getElem?_cons_zero, Option.some.injEq] at t5 t18 h19
  subst t5 t18 h19
  obtain ⟨x, y, p, q⟩ := e
  simp only [atRecv5, AtRv, ops55, L5b, L5, B5, tail5, body5, Try.f5, Option.getD_some, vB] at next ⊢
  repeat (first
    | (refine Goes.step rfl (fun _ h₁ => ?_)
       walk_rw
       refine ⟨DA_of_below (Below.refl _ _) (by simp), ?_⟩
       replace hF := AF.aside hF h₁
       clear h₁)
    | (refine Goes.step rfl (fun _ h₁ => ?_)
       replace hF := AF.aside hF h₁
       clear h₁
       refine goes_oper_k rfl rfl (by decide) (fun K hK => ?_)
       have hch := AF.chv hF
       go_simp
       refine hK _ _ ⟨DA_of_below (Below.refl _ _) (fun e he => ?_), ?_⟩
       · have hm := mem_listed he
         simp [go_sem, *] at hm
         try (subst hm; exact evA_read _ _ (by simp))
       clear hK K hch))
  refine Goes.step rfl (fun _ h₁ => ?_)
  rw [stepG_cond (t := true) rfl]
  simp only [goes_go, if_true, if_false, Bool.false_eq_true, ↓reduceIte]
  refine ⟨DA_of_below (Below.refl _ _) (by simp), ?_⟩
  replace hF := AF.aside hF h₁
  clear h₁
  repeat (first
    | (refine Goes.step rfl (fun _ h₁ => ?_)
       walk_rw
       refine ⟨DA_of_below (Below.refl _ _) (by simp), ?_⟩
       replace hF := AF.aside hF h₁
       clear h₁)
    | (refine Goes.step rfl (fun _ h₁ => ?_)
       replace hF := AF.aside hF h₁
       clear h₁
       refine goes_oper_k rfl rfl (by decide) (fun K hK => ?_)
       have hch := AF.chv hF
       go_simp
       refine hK _ _ ⟨DA_of_below (Below.refl _ _) (fun e he => ?_), ?_⟩
       · have hm := mem_listed he
         simp [go_sem, *] at hm
         try (subst hm; exact evA_read _ _ (by simp))
       clear hK K hch))
  -- a new block for the variable of the loop
  refine Goes.step rfl (fun w₁ h₁ => ?_)
  replace hF := AF.aside hF h₁
  clear h₁
  refine goes_oper_k rfl rfl (by decide) (fun K hK => ?_)
  go_simp
  refine hK _ _ ⟨DA_of_below ((Below.refl _ _).alloc hF.size _) (fun e he => ?_), ?_⟩
  · have hm := mem_listed he
    simp [go_sem] at hm
  clear hK K
  have hB : Own (w₁.alloc (.cells #[.int .i64 0, .int .i64 0, .int .i64 0, .int .i64 0] 36)) w₁.heap.size 36 [.int .i64 0, .int .i64 0, .int .i64 0, .int .i64 0] := Own.new _ _ _
  have hBs := hF.size
  have hlt : ∀ k, k ∈ gOf A → k < w₁.heap.size := hF.own.lt
  replace hF := hF.up ((Below.refl _ _).alloc hF.size (.cells #[.int .i64 0, .int .i64 0, .int .i64 0, .int .i64 0] 36)) (fun k hk => Below.heap_alloc _ _ _ (hlt k hk))
  generalize w₁.alloc (.cells #[.int .i64 0, .int .i64 0, .int .i64 0, .int .i64 0] 36) = w₂ at hF hB ⊢
  generalize w₁.heap.size = B at hB hBs hlt ⊢
  -- its value
  refine Goes.step rfl (fun w₃ h₃ => ?_)
  replace hF := AF.aside hF h₃
  replace hB : Own w₃ B 36 _ := (h₃.block B (by omega)).trans hB
  have q0 := hB.cell 0
  have q1 := hB.cell 1
  have q2 := hB.cell 2
  have q3 := hB.cell 3
  have qf := hB.frozen
  simp only [List.getElem?_cons_zero, List.getElem?_cons_succ] at q0 q1 q2 q3
  clear h₃ w₂
  refine goes_oper_k rfl rfl (by decide) (fun K hK => ?_)
  go_simp
  have hb4 : Below (M + 5) w₃ ((((w₃.setCell ⟨B, 0, none⟩ (.int .i64 x)).setCell ⟨B, 1, none⟩ (.int .i64 y)).setCell ⟨B, 2, none⟩ (.int .i64 p)).setCell ⟨B, 3, none⟩ (.int .i64 q)) := ((((Below.refl _ _).setCell (by simp; omega) _).setCell (by simp; omega) _).setCell (by simp; omega) _).setCell (by simp; omega) _
  refine hK _ _ ⟨DA_of_below hb4 (fun e he => ?_), ?_⟩
  · have hm := mem_listed he
    simp [go_sem, *] at hm
    rcases hm with rfl | rfl | rfl | rfl <;> exact evA_own _ _ _ (by simp; omega)
  clear hK K q0 q1 q2 q3 qf
  replace hF := hF.up hb4 (fun k hk => by have := hlt k hk; rw [Below.heap_setCell _ _ _ _ (by simp; omega), Below.heap_setCell _ _ _ _ (by simp; omega), Below.heap_setCell _ _ _ _ (by simp; omega), Below.heap_setCell _ _ _ _ (by simp; omega)])
  replace hB := (((hB.set_ 0 (.int .i64 x)).set_ 1 (.int .i64 y)).set_ 2 (.int .i64 p)).set_ 3 (.int .i64 q)
  clear hb4
  generalize ((((w₃.setCell ⟨B, 0, none⟩ (.int .i64 x)).setCell ⟨B, 1, none⟩ (.int .i64 y)).setCell ⟨B, 2, none⟩ (.int .i64 p)).setCell ⟨B, 3, none⟩ (.int .i64 q)) = w₂ at hF hB ⊢
  have hB' : Own w₂ B 36 [.int .i64 x, .int .i64 y, .int .i64 p, .int .i64 q] := hB
  clear hB w₃
  repeat (first
    | (refine Goes.step rfl (fun _ h₁ => ?_)
       walk_rw
       refine ⟨DA_of_below (Below.refl _ _) (by simp), ?_⟩
       replace hF := AF.aside hF h₁
       replace hB' := Eq.trans (h₁.block B (by omega)) hB'
       clear h₁)
    | (refine Goes.step rfl (fun _ h₁ => ?_)
       replace hF := AF.aside hF h₁
       replace hB' := Eq.trans (h₁.block B (by omega)) hB'
       clear h₁
       refine goes_oper_k rfl rfl (by decide) (fun K hK => ?_)
       have q0 := Own.cell hB' 0
       have q1 := Own.cell hB' 1
       have q2 := Own.cell hB' 2
       have q3 := Own.cell hB' 3
       simp only [List.getElem?_cons_zero, List.getElem?_cons_succ] at q0 q1 q2 q3
       go_simp
       refine hK _ _ ⟨DA_of_below (Below.refl _ _) (fun e he => ?_), ?_⟩
       · have hm := mem_listed he
         simp [go_sem, *] at hm
         try (rcases hm with rfl | rfl | rfl | rfl <;> exact evA_read _ _ (by simp))
       clear hK K q0 q1 q2 q3))
  -- the new element's row
  refine Goes.step rfl (fun w₁ h₁ => ?_)
  replace hF := AF.aside hF h₁
  clear h₁ hB'
  refine goes_oper_k rfl rfl (by decide) (fun K hK => ?_)
  go_simp
  refine hK _ _ ⟨DA_of_below ((Below.refl _ _).alloc hF.size _) (fun e he => ?_), ?_⟩
  · have hm := mem_listed he
    simp [go_sem] at hm
  clear hK K
  have hC : Own (w₁.alloc (.cells #[.int .i64 x, .int .i64 y, .int .i64 p, .int .i64 q] 36)) w₁.heap.size 36 [.int .i64 x, .int .i64 y, .int .i64 p, .int .i64 q] := Own.new _ _ _
  have hCs := hF.size
  have hlt' : ∀ k, k ∈ gOf A → k < w₁.heap.size := hF.own.lt
  replace hF := hF.up ((Below.refl _ _).alloc hF.size (.cells #[.int .i64 x, .int .i64 y, .int .i64 p, .int .i64 q] 36)) (fun k hk => Below.heap_alloc _ _ _ (hlt' k hk))
  generalize w₁.alloc (.cells #[.int .i64 x, .int .i64 y, .int .i64 p, .int .i64 q] 36) = w₂ at hF hC ⊢
  generalize w₁.heap.size = C at hC hCs hlt' ⊢
  -- append
  refine Goes.step rfl (fun w₃ h₃ => ?_)
  replace hF := AF.aside hF h₃
  replace hC : Own w₃ C 36 _ := (h₃.block C (by omega)).trans hC
  clear h₃ w₂
  obtain ⟨i0, hi, hz0, hz1, hz2⟩ := info_parts T.infoBk
  have hRS : RS w₃ 4 (some ⟨C, 0, none⟩) 1 1 [.int .i64 x, .int .i64 y, .int .i64 p, .int .i64 q] := hC.rd rfl (fun j hj => rfl) (Nat.zero_le _) hC.lt (by simp [maxLen])
  have hnews : ∀ j u, [Value.int .i64 x, .int .i64 y, .int .i64 p, .int .i64 q][j]? = some u → w₃.cell? ((⟨C, 0, none⟩ : Addr).add j) = some u := by
    intro j u hj
    have := hC.cell j
    rw [hj] at this
    unfold Addr.add
    split
    · rename_i h0; subst h0; exact this
    · simpa using this
  have h1 : ∀ u ∈ [Value.int .i64 x, .int .i64 y, .int .i64 p, .int .i64 q], u.oneCell' = true := by intro u hu; simp at hu; rcases hu with rfl | rfl | rfl | rfl <;> rfl
  have h63 : n + 1 ≤ maxLen := by simp only [maxLen]; omega
  have hM : M ≤ w₃.heap.size := by have := hF.size; omega
  obtain ⟨A', c', w₄, hr, hG, hbe, hgrow, hsz, hwh⟩ := run_app (P := Try.prog) 26 26 M 36 (vBucket 0 0 0 0) 4 32 Try.underlying26 T.infoBk rfl (by decide) hF.own hRS h1 h63 (by omega) hM
  have hevs := events_append_own (P := Try.prog) w₃ M 26 26 36 i0 (vBucket 0 0 0 0) 4 32 Try.underlying26 hi hz0 hz1 hz2 (.slice A n c) n xs hF.own ⟨C, 0, none⟩ 1 1 _ rfl hnews h1 h63 (by omega)
  refine goes_oper_k rfl rfl (by decide) (fun K hK => ?_)
  refine uponK_append (.tmp 22) (.tmp 24) 26 rfl rfl rfl hr (hK _ _ ⟨DA_of_app hgrow hF.size hF.ob (fun e he => ?_), ?_⟩)
  · have hm := mem_listed he
    rw [events_append_op (.tmp 22) (.tmp 24) 26 rfl rfl rfl] at hm
    rcases hevs e hm with ⟨ad, h2, h3⟩ | ⟨ad, h2, h3⟩ | ⟨m, rfl, hn⟩
    · exact ⟨fun m => by rw [h2]; simp, fun hw => by rw [h3] at hw; cases hw⟩
    · refine ⟨fun m => by rw [h2]; simp, fun _ => ⟨ad, h2, ?_⟩⟩
      cases A with
      | none => simp [Value.ownBlock] at h3
      | some a0 => have := hF.ob a0.block (by simp [gOf]); simp [Value.ownBlock] at h3; rw [h3]; omega
    · exact ⟨fun m' h' => (by cases h'; exact hn), fun hw => (by cases hw)⟩
  clear hK K
  have hob : ∀ k, k ∈ gOf A' → k = M ∨ M + 5 ≤ k := by
    intro k hk
    rcases hwh with h | h
    · rw [h] at hk; exact hF.ob k hk
    · rw [h] at hk; simp at hk; have := hF.size; omega
  have hch : w₄.cell? ⟨M + 4, 0, none⟩ = some (.chan (some (M + 3))) := by
    refine (World.cell?_of_block (hgrow.block (M + 4) (by have := hF.size; omega) ?_)).trans hF.chv
    cases A with
    | none => simp
    | some ad => have := hF.ob ad.block (by simp [gOf]); simp; omega
  replace hF : AF M W A' (n + 1) c' (xs ++ [.int .i64 x, .int .i64 y, .int .i64 p, .int .i64 q]) w₄ :=
    ⟨hG, hob, hF.below.grown hgrow hM (fun k hk => by cases A with | none => simp at hk | some ad => have := hF.ob ad.block (by simp [gOf]); simp at hk; omega), Nat.le_trans hF.size hsz, hch⟩
  clear hr hG hbe hgrow hevs hnews hRS hob hch hsz hwh hi hz0 hz1 hz2 h1 h63 hM hC w₃
  repeat (first
    | (refine (next _ _ _ _ ?_ hF).mono ?_ <;> first | (simp; done) | omega)
    | (refine Goes.step rfl (fun _ h₁ => ?_)
       walk_rw
       refine ⟨DA_of_below (Below.refl _ _) (by simp), ?_⟩
       replace hF := AF.aside hF h₁
       clear h₁)
    | (refine Goes.step rfl (fun _ h₁ => ?_)
       replace hF := AF.aside hF h₁
       clear h₁
       refine goes_oper_k rfl rfl (by decide) (fun K hK => ?_)
       have hch := AF.chv hF
       go_simp
       refine hK _ _ ⟨DA_of_below (Below.refl _ _) (fun e he => ?_), ?_⟩
       · have hm := mem_listed he
         simp [go_sem, *] at hm
         try (subst hm; exact evA_read _ _ (by simp))
       clear hK K hch))
end
end Go.Proofs.Ythpanpedoeghoaa
namespace Go.Proofs.Ythpanpedoeghoaa
open Go.Conc Go.RowKit Go.Proofs.Ythpanpedoeghoaa.Lift
set_option linter.unusedVariables false
set_option linter.unusedSimpArgs false
section
variable (M : Nat) (W : World) (a b s : Nat) (F3 : Frame)
def rB : List EBucket → List Value
  | [] => []
  | e :: l => .int .i64 e.1 :: .int .i64 e.2.1 :: .int .i64 e.2.2.1 :: .int .i64 e.2.2.2 :: rB l
set_option maxRecDepth 100000 in
theorem atRecv_comm {A : Option Addr} {n c : Nat} {T : Array Value} (hT : AtRv M A n c T) (w : World) : stepG Try.prog true (atRecv5 F3 T [0, 1]) w =
    .comm (core (atRecv5 F3 T [0, 1])) #[rcase (M + 3) (vBucket 0 0 0 0)] true (.recv true) w #[] := by
  obtain ⟨hT, t5, t18⟩ := hT
  obtain ⟨v0, v1, v2, v3, v4, v5, v6, v7, v8, v9, v10, v11, v12, v13, v14, v15, v16, v17, v18, v19, v20, v21, v22, v23, v24, v25, v26, rfl⟩ := array27 T hT
  simp only [List.getElem?_toArray, List.getElem?_cons_succ, List.getElem?_cons_zero, Option.some.injEq] at t5 t18
  subst t5 t18
  simp only [atRecv5, ops55, L5, B5, body5, Try.f5, Option.getD_some, core_G]
  rw [stepG_comm (cases := #[rcase (M + 3) (vBucket 0 0 0 0)]) (blocking := true) (shape := .recv true) (w' := w) rfl rfl (by decide) (by simp [go_sem, rcase])]
  simp [listed, go_sem, seen]
theorem served_atRecv (T : Array Value) (v : Value) : Conc.served (core (atRecv5 F3 T [0, 1])) v = atRecv5 F3 (T.setIfInBounds 19 v) [1] := by
  simp only [atRecv5, ops55, L5, B5, body5, Try.f5, Option.getD_some, core_G, served_G]
  rfl
theorem AtRv.put {M n c : Nat} {A : Option Addr} {T : Array Value} (h : AtRv M A n c T) (v : Value) : AtRv M A n c (T.setIfInBounds 19 v) ∧ (T.setIfInBounds 19 v)[19]? = some v := by
  obtain ⟨h1, h2, h3⟩ := h
  refine ⟨⟨by simpa using h1, ?_, ?_⟩, ?_⟩
  · rw [Array.getElem?_setIfInBounds_ne (by decide)]; exact h2
  · rw [Array.getElem?_setIfInBounds_ne (by decide)]; exact h3
  · rw [Array.getElem?_setIfInBounds_self_of_lt (by omega)]
/-- It has found the channel closed: the row holds all that was sent. -/
def FinR (n : Nat) (xs : List Value) (g : Goroutine) (w : World) : Prop :=
  ∃ (A : Option Addr) (c : Nat) (T : Array Value), g = atRecv5 F3 T [1] ∧ AtRv M A n c T ∧ T[19]? = some (.tuple #[vBucket 0 0 0 0, .bool false]) ∧ AF M W A n c xs w
theorem stopA_at (Fin : Goroutine → World → Prop) : ∀ (l : List EBucket) (A : Option Addr) (n c : Nat) (xs : List Value) (T : Array Value) (w : World), n + l.length ≤ 10000 → AtRv M A n c T → AF M W A n c xs w → (∀ g w, FinR M W F3 (n + l.length) (xs ++ rB l) g w → Fin g w) →
    StopA Try.prog (M + 3) (Shared (M + 1) a b s) (Mine (M + 1)) (vBucket 0 0 0 0) Fin (l.map vB) (atRecv5 F3 T [0, 1]) w
  | [], A, n, c, xs, T, w, _, hT, hF, hfin => by
    refine ⟨rfl, #[], atRecv_comm M F3 hT w, by simp, fun w₂ h₂ => ?_⟩
    simp only [served_atRecv, rB, List.append_nil, List.length_nil, Nat.add_zero] at hfin ⊢
    exact hfin _ _ ⟨A, c, _, rfl, (hT.put _).1, (hT.put _).2, hF.aside h₂⟩
  | e :: l, A, n, c, xs, T, w, hl, hT, hF, hfin => by
    refine ⟨rfl, #[], atRecv_comm M F3 hT w, by simp, fun w₂ h₂ => ?_⟩
    simp only [served_atRecv]
    simp only [List.length_cons] at hl
    refine (recvs_iff ..).2 ⟨0 + 60, seg_a2 M W a b s F3 0 _ A n c xs e (by omega) _ (hT.put _).1 (hT.put _).2 w₂ (hF.aside h₂) fun A' c' T' w' hT' hF' => Goes.stop fun w₁ h₁ => ?_⟩
    refine stopA_at Fin l A' (n + 1) c' _ T' w₁ (by omega) hT' (hF'.aside h₁) fun g w hf => hfin g w ?_
    simp only [rB, List.length_cons, List.append_assoc, List.cons_append, List.nil_append, Nat.add_assoc, Nat.add_comm 1] at hf ⊢
    exact hf
/-- From behind the go statement. -/
theorem recvs_all (Fin : Goroutine → World → Prop) (l : List EBucket) (A : Option Addr) (n c : Nat) (xs : List Value) (hl : n + l.length ≤ 10000) (T16 T5 : Array Value) (h16 : T16.size = 9) (h165 : T16[5]? = some (.pointer (some ⟨M + 4, 0, none⟩))) (h5 : T5.size = 27) (h55 : T5[5]? = some (.slice A n c)) (w : World) (hF : AF M W A n c xs w)
    (hfin : ∀ g w, FinR M W F3 (n + l.length) (xs ++ rB l) g w → Fin g w) :
    Recvs Try.prog (M + 3) (Shared (M + 1) a b s) (Mine (M + 1)) (vBucket 0 0 0 0) Fin (l.map vB) (G ((base 16).at ⟨T16, []⟩ [.inRegion ops162 [], .code tail16]) [(base 5).at ⟨T5, []⟩ [.inRegion ops54 [2], .code B5, .code tail5], F3]) w :=
  (recvs_iff ..).2 ⟨0 + 40, seg_a1 M W a b s F3 0 _ A n c xs T16 T5 h16 h165 h5 h55 w hF fun T w' hT hF' => Goes.stop fun w₁ h₁ => stopA_at M W a b s F3 Fin l A n c xs T w₁ hl hT (hF'.aside h₁) hfin⟩
end
end Go.Proofs.Ythpanpedoeghoaa
