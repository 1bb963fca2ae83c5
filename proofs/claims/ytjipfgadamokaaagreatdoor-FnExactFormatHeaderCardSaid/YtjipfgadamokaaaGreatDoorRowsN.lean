/- MADE BY PROGRAM (genrowl.py). Nodes and assignments: the laws' own helpers on rows. -/
import Derived.Test.YtjipfgadamokaaaGreatDoorMgA
import Derived.BigQuiet
import Derived.Deep.Cut
import Derived.Deep.RegionHeld3
set_option linter.unusedVariables false
set_option linter.unusedSimpArgs false
namespace Go.Proofs.YtjipfgadamokaaaGreatDoor
open Go.RowKit Go.Lib
set_option maxRecDepth 100000
theorem run_loadE {P : Program} {oi : Oper} {ev : Operand → Value} {t : TypeId} {x : Operand} {p v : Value} {w w' : World} (ho : oi.op = .load t x) (hx : ev x = p) (h : (Instr.loadAt t p).run P w = .ok v w') : (execOp ev oi).run P w = .ok (.value v) w' := by
  unfold execOp
  simp only [ho, hx, Sem.run_bind, h, Result.andThen_ok, Sem.run_pure]
theorem lowA_slice {lo : Nat} {A : Option Addr} {w w' : World} {n c : Nat} {xs : List Value} (h : RS w 1 A n c xs) : lowA 0 A := fun _ _ => Nat.zero_le _
def nodeP (lo : Nat) (w : World) (ys : List Value) (x : ENode) : Prop := ∃ A c, ys = [.int .i64 x.1, str x.2.1, .int .i64 x.2.2.1, .slice A x.2.2.2.length c] ∧ x.2.1.length ≤ maxLen ∧ RS w 1 A x.2.2.2.length c (ints x.2.2.2) ∧ lowA lo A
def nodeE : Elem ENode where
  sz := 4
  P := nodeP
  len := by rintro lo w ys x ⟨A, c, rfl, _⟩; rfl
  one := by rintro lo w ys x ⟨A, c, rfl, _⟩; rfl
  keep := by rintro lo w w' ys x ⟨A, c, rfl, h1, h2, h3⟩ hu; exact ⟨A, c, rfl, h1, h2.up h3 hu, h3⟩
  mono := by rintro lo lo' w ys x ⟨A, c, rfl, h1, h2, h3⟩ hl; exact ⟨A, c, rfl, h1, h2, fun y hy => Nat.le_trans hl (h3 y hy)⟩
def assP (lo : Nat) (w : World) (ys : List Value) (x : EAssign) : Prop := ys = [str x.1, .int .i64 x.2] ∧ x.1.length ≤ maxLen
def assE : Elem EAssign where
  sz := 2
  P := assP
  len := by rintro lo w ys x ⟨rfl, _⟩; rfl
  one := by rintro lo w ys x ⟨rfl, _⟩; rfl
  keep := by rintro lo w w' ys x h hu; exact h
  mono := by rintro lo lo' w ys x h hl; exact h
def nodeB (x : ENode) : Prop := x.2.1.length ≤ 1048576 ∧ x.2.2.2.length ≤ 1048576
def assB (x : EAssign) : Prop := x.1.length ≤ 1048576
theorem T.infoNode : (Tryz.prog.info? 111).map (fun i => (i.zero, i.size, i.bytes)) = some (some (.agg #[.int .i64 0, .string ByteArray.empty, .int .i64 0, .slice none 0 0]), 4, 56) := by kernel_rfl
theorem T.infoAss : (Tryz.prog.info? 114).map (fun i => (i.zero, i.size, i.bytes)) = some (some (.agg #[.string ByteArray.empty, .int .i64 0]), 2, 24) := by kernel_rfl
set_option maxHeartbeats 4000000 in
theorem L_szNode {lo : Nat} {ys : List Value} {x : ENode} {left : Int} (w : World) (h : nodeE.P lo w ys x) (h1 : 0 ≤ left) (h2 : left ≤ 1048576) :
    Calls Tryz.prog 100 #[.agg ⟨ys⟩, .int .i64 left] w fun e w' => ∃ r : Int, e = .returned (.int .i64 r) ∧ -1 ≤ r ∧ r ≤ left ∧ (0 ≤ r → nodeB x) ∧ Below w.heap.size w w' := by
  obtain ⟨op, name, num, l⟩ := x
  obtain ⟨A, c, rfl, hs, hr, _⟩ := h
  (try dsimp only at hs hr)
  have hll := hr.len
  unfold maxLen at hs hll
  clear hr
  by_cases q0 : left < name.length
  · have q1 : left - (name.length : Int) < 0 := by omega
    go_enter Tryz.func100, Tryz.ntmps100
    go_wp2_with fail
    go_ret
    exact ⟨-1, rfl, by omega, by omega, fun h => absurd h (by omega), (by repeat (first | (with_reducible exact Below.refl _ _) | (with_reducible assumption) | ((with_reducible refine Below.alloc ?_ ?_ _); rotate_left; (first | omega | (simp <;> omega))) | ((with_reducible refine Below.setCell ?_ ?_ _); rotate_left; (first | omega | (simp <;> omega))) | (with_reducible refine below_drewN ?_ _) | (with_reducible refine Below.drew ?_) | ((with_reducible refine Below.step (by assumption) ?_ ?_); rotate_left; (first | omega | (simp <;> omega)))))⟩
  have q1 : ¬ left - (name.length : Int) < 0 := by omega
  have HC : Hid (∀ wx, Calls Tryz.prog 33 #[.slice A l.length c, .int .i64 (left - name.length)] wx fun e w' => e = .returned (.int .i64 (szF (left - name.length) l.length)) ∧ wx = w') := Lib.hid (fun wx => L_szIntS A l.length c _ (by omega) (by omega) (by unfold maxLen; omega) wx)
  have HZ : Hid (szF (left - name.length) l.length = -1 ∨ (0 ≤ szF (left - name.length) l.length ∧ szF (left - name.length) l.length ≤ left - name.length ∧ (l.length : Int) ≤ left - name.length)) := Lib.hid (by
    by_cases h : left - name.length < l.length
    · exact .inl (szF_big h)
    · have := szF_small (left := left - name.length) (n := l.length) (by omega); right; omega)
  generalize szF (left - name.length) l.length = r at *
  rcases HZ.out with rfl | ⟨g1, g2, g3⟩
  · go_enter Tryz.func100, Tryz.ntmps100
    go_wp2_with (first | (go_at_call 33; refine (HC.out _).mono ?_; rintro e w' ⟨rfl, rfl⟩) | fail)
    go_ret
    exact ⟨-1, rfl, by omega, by omega, fun h => absurd h (by omega), (by repeat (first | (with_reducible exact Below.refl _ _) | (with_reducible assumption) | ((with_reducible refine Below.alloc ?_ ?_ _); rotate_left; (first | omega | (simp <;> omega))) | ((with_reducible refine Below.setCell ?_ ?_ _); rotate_left; (first | omega | (simp <;> omega))) | (with_reducible refine below_drewN ?_ _) | (with_reducible refine Below.drew ?_) | ((with_reducible refine Below.step (by assumption) ?_ ?_); rotate_left; (first | omega | (simp <;> omega)))))⟩
  · have g4 : ¬ r < 0 := by omega
    go_enter Tryz.func100, Tryz.ntmps100
    go_wp2_with (first | (go_at_call 33; refine (HC.out _).mono ?_; rintro e w' ⟨rfl, rfl⟩) | fail)
    go_ret
    exact ⟨r, rfl, by omega, by omega, fun _ => ⟨by show name.length ≤ _; omega, by show l.length ≤ _; omega⟩, (by repeat (first | (with_reducible exact Below.refl _ _) | (with_reducible assumption) | ((with_reducible refine Below.alloc ?_ ?_ _); rotate_left; (first | omega | (simp <;> omega))) | ((with_reducible refine Below.setCell ?_ ?_ _); rotate_left; (first | omega | (simp <;> omega))) | (with_reducible refine below_drewN ?_ _) | (with_reducible refine Below.drew ?_) | ((with_reducible refine Below.step (by assumption) ?_ ?_); rotate_left; (first | omega | (simp <;> omega)))))⟩
set_option maxHeartbeats 4000000 in
theorem L_szAssignment {lo : Nat} {ys : List Value} {x : EAssign} {left : Int} (w : World) (h : assE.P lo w ys x) (h1 : 0 ≤ left) (h2 : left ≤ 1048576) :
    Calls Tryz.prog 101 #[.agg ⟨ys⟩, .int .i64 left] w fun e w' => ∃ r : Int, e = .returned (.int .i64 r) ∧ -1 ≤ r ∧ r ≤ left ∧ (0 ≤ r → assB x) ∧ Below w.heap.size w w' := by
  obtain ⟨name, num⟩ := x
  obtain ⟨rfl, hs⟩ := h
  (try dsimp only at hs)
  unfold maxLen at hs
  by_cases q0 : left < name.length
  · have q1 : left - (name.length : Int) < 0 := by omega
    go_enter Tryz.func101, Tryz.ntmps101
    go_wp2_with fail
    go_ret
    exact ⟨-1, rfl, by omega, by omega, fun h => absurd h (by omega), (by repeat (first | (with_reducible exact Below.refl _ _) | (with_reducible assumption) | ((with_reducible refine Below.alloc ?_ ?_ _); rotate_left; (first | omega | (simp <;> omega))) | ((with_reducible refine Below.setCell ?_ ?_ _); rotate_left; (first | omega | (simp <;> omega))) | (with_reducible refine below_drewN ?_ _) | (with_reducible refine Below.drew ?_) | ((with_reducible refine Below.step (by assumption) ?_ ?_); rotate_left; (first | omega | (simp <;> omega)))))⟩
  have q1 : ¬ left - (name.length : Int) < 0 := by omega
  go_enter Tryz.func101, Tryz.ntmps101
  go_wp2_with fail
  go_ret
  exact ⟨_, rfl, by omega, by omega, fun _ => by show name.length ≤ _; omega, (by repeat (first | (with_reducible exact Below.refl _ _) | (with_reducible assumption) | ((with_reducible refine Below.alloc ?_ ?_ _); rotate_left; (first | omega | (simp <;> omega))) | ((with_reducible refine Below.setCell ?_ ?_ _); rotate_left; (first | omega | (simp <;> omega))) | (with_reducible refine below_drewN ?_ _) | (with_reducible refine Below.drew ?_) | ((with_reducible refine Below.step (by assumption) ?_ ?_); rotate_left; (first | omega | (simp <;> omega)))))⟩
set_option maxHeartbeats 4000000 in
theorem L_toNode {lo : Nat} {ys : List Value} {x : ENode} (w : World) (h : nodeE.P lo w ys x) (hB : nodeB x) :
    Calls Tryz.prog 108 #[.agg ⟨ys⟩] w fun e w' => ∃ zs, e = .returned (.agg ⟨zs⟩) ∧ nodeE.P w.heap.size w' zs x ∧ Below w.heap.size w w' := by
  obtain ⟨op, name, num, l⟩ := x
  obtain ⟨A, c, rfl, hs, hr, _⟩ := h
  (try dsimp only at hs hr)
  have HS := Lib.hid hs
  have HC : Hid (∀ wx, Below w.heap.size w wx → Calls Tryz.prog 47 #[.slice A l.length c] wx (OutInts l wx)) := Lib.hid (fun wx hb => L_toIntS A c l wx hB.2 (RS.step hb hr))
  clear hr hs hB
  go_enter Tryz.func108, Tryz.ntmps108
  go_wp2_with (first | (go_at_call 47; (refine (HC.out _ (by repeat (first | (with_reducible exact Below.refl _ _) | (with_reducible assumption) | ((with_reducible refine Below.alloc ?_ ?_ _); rotate_left; (first | omega | (simp <;> omega))) | ((with_reducible refine Below.setCell ?_ ?_ _); rotate_left; (first | omega | (simp <;> omega))) | (with_reducible refine below_drewN ?_ _) | (with_reducible refine Below.drew ?_) | ((with_reducible refine Below.step (by assumption) ?_ ?_); rotate_left; (first | omega | (simp <;> omega)))))).mono ?_); rintro e wA ⟨rfl, hoA, hrA, hbA⟩; have hzA := hbA.size; (try simp at hzA); (refine with_box hbA (w.heap.size) ?_ ?_; (first | omega | (simp <;> omega)); intro n0 nf0 nz0); (refine with_box hbA (w.heap.size + 1) ?_ ?_; (first | omega | (simp <;> omega)); intro m0 mf0 mz0); (refine with_box hbA (w.heap.size + 1 + 1) ?_ ?_; (first | omega | (simp <;> omega)); intro q0 qf0 qz0); have HRA := Lib.hid hrA; have HBA : Hid (Below w.heap.size w wA) := Lib.hid (Below.step hbA (by repeat (first | (with_reducible exact Below.refl _ _) | (with_reducible assumption) | ((with_reducible refine Below.alloc ?_ ?_ _); rotate_left; (first | omega | (simp <;> omega))) | ((with_reducible refine Below.setCell ?_ ?_ _); rotate_left; (first | omega | (simp <;> omega))) | (with_reducible refine below_drewN ?_ _) | (with_reducible refine Below.drew ?_) | ((with_reducible refine Below.step (by assumption) ?_ ?_); rotate_left; (first | omega | (simp <;> omega))))) (by first | omega | (simp <;> omega))); clear hoA hrA hbA) | fail)
  refine bodyPost_ret (v := .agg #[.int .i64 op, str name, .int .i64 num, sl (w.heap.size + 1 + 1 + 1) l.length]) (by simp [results, Tryz.results108, go_sem, *]) rfl ?_
  refine ⟨_, rfl, ⟨_, _, rfl, HS.out, ?_, ?_⟩, (by repeat (first | (with_reducible exact Below.refl _ _) | (with_reducible exact HBA.out) | (with_reducible assumption) | ((with_reducible refine Below.alloc ?_ ?_ _); rotate_left; (first | omega | (simp <;> omega))) | ((with_reducible refine Below.setCell ?_ ?_ _); rotate_left; (first | omega | (simp <;> omega))) | (with_reducible refine below_drewN ?_ _) | (with_reducible refine Below.drew ?_) | ((with_reducible refine Below.step (by assumption) ?_ ?_); rotate_left; (first | omega | (simp <;> omega)))))⟩
  · show RS _ 1 _ l.length _ (ints l)
    have h3 : ∀ (n : Nat), n < w.heap.size + 1 + 1 + 1 → ∀ ad : Addr, some (⟨w.heap.size + 1 + 1 + 1, 0, none⟩ : Addr) = some ad → ad.block ≠ n := by
      intro n hn ad h
      injection h with h
      subst h
      show w.heap.size + 1 + 1 + 1 ≠ n
      omega
    repeat (first | (with_reducible exact HRA.out) | (with_reducible refine RS.drewN ?_ _) | (refine RS.setCell ?_ (h3 _ (by simp <;> omega)) _))
    all_goals (have := HRA.out; simp only [World.size_alloc] at this; exact this)
  · intro y hy
    simp [gOf] at hy
    omega
set_option maxHeartbeats 4000000 in
theorem L_toAssignment {lo : Nat} {ys : List Value} {x : EAssign} (w : World) (h : assE.P lo w ys x) (hB : assB x) :
    Calls Tryz.prog 109 #[.agg ⟨ys⟩] w fun e w' => ∃ zs, e = .returned (.agg ⟨zs⟩) ∧ assE.P w.heap.size w' zs x ∧ Below w.heap.size w w' := by
  obtain ⟨name, num⟩ := x
  obtain ⟨rfl, hs⟩ := h
  have HS := Lib.hid hs
  clear hs hB
  go_enter Tryz.func109, Tryz.ntmps109
  go_wp2_with fail
  refine bodyPost_ret (v := .agg #[str name, .int .i64 num]) (by simp [results, Tryz.results109, go_sem, *]) rfl ?_
  exact ⟨_, rfl, ⟨rfl, HS.out⟩, (by repeat (first | (with_reducible exact Below.refl _ _) | (with_reducible assumption) | ((with_reducible refine Below.alloc ?_ ?_ _); rotate_left; (first | omega | (simp <;> omega))) | ((with_reducible refine Below.setCell ?_ ?_ _); rotate_left; (first | omega | (simp <;> omega))) | (with_reducible refine below_drewN ?_ _) | (with_reducible refine Below.drew ?_) | ((with_reducible refine Below.step (by assumption) ?_ ?_); rotate_left; (first | omega | (simp <;> omega)))))⟩
set_option maxHeartbeats 4000000 in
theorem L_eqAssignment {lo lo' : Nat} {ys ys' : List Value} {x : EAssign} (w : World) (h : assE.P lo w ys x) (h' : assE.P lo' w ys' x) :
    Calls Tryz.prog 131 #[.agg ⟨ys⟩, .agg ⟨ys'⟩] w fun e w' => e = .returned (.bool true) ∧ Below w.heap.size w w' := by
  obtain ⟨name, num⟩ := x
  obtain ⟨rfl, _⟩ := h
  obtain ⟨rfl, _⟩ := h'
  have e1 : (name != name) = false := by simp
  have e2 : (num != num) = false := by simp
  go_enter Tryz.func131, Tryz.ntmps131
  go_wp2_with fail
  go_ret
  exact ⟨rfl, (by repeat (first | (with_reducible exact Below.refl _ _) | (with_reducible assumption) | ((with_reducible refine Below.alloc ?_ ?_ _); rotate_left; (first | omega | (simp <;> omega))) | ((with_reducible refine Below.setCell ?_ ?_ _); rotate_left; (first | omega | (simp <;> omega))) | (with_reducible refine below_drewN ?_ _) | (with_reducible refine Below.drew ?_) | ((with_reducible refine Below.step (by assumption) ?_ ?_); rotate_left; (first | omega | (simp <;> omega)))))⟩
set_option maxHeartbeats 4000000 in
theorem L_eqNode {lo lo' : Nat} {ys ys' : List Value} {x : ENode} (w : World) (h : nodeE.P lo w ys x) (h' : nodeE.P lo' w ys' x) :
    Calls Tryz.prog 130 #[.agg ⟨ys⟩, .agg ⟨ys'⟩] w fun e w' => e = .returned (.bool true) ∧ Below w.heap.size w w' := by
  obtain ⟨op, name, num, l⟩ := x
  obtain ⟨A, c, rfl, _, hr, _⟩ := h
  obtain ⟨A2, c2, rfl, _, hr2, _⟩ := h'
  (try dsimp only at hr hr2)
  have HC : Hid (∀ wx, Below w.heap.size w wx → Calls Tryz.prog 63 #[.slice A l.length c, .slice A2 l.length c2] wx fun e w' => e = .returned (.bool true) ∧ Below wx.heap.size wx w') := Lib.hid (fun wx hb => by have := L_eqIntS A A2 c c2 l l wx (RS.step hb hr) (RS.step hb hr2); simpa using this)
  have e1 : (name != name) = false := by simp
  have e2 : (num != num) = false := by simp
  have e3 : (op != op) = false := by simp
  clear hr hr2
  go_enter Tryz.func130, Tryz.ntmps130
  go_wp2_with (first | (go_at_call 63; (refine (HC.out _ (by repeat (first | (with_reducible exact Below.refl _ _) | (with_reducible assumption) | ((with_reducible refine Below.alloc ?_ ?_ _); rotate_left; (first | omega | (simp <;> omega))) | ((with_reducible refine Below.setCell ?_ ?_ _); rotate_left; (first | omega | (simp <;> omega))) | (with_reducible refine below_drewN ?_ _) | (with_reducible refine Below.drew ?_) | ((with_reducible refine Below.step (by assumption) ?_ ?_); rotate_left; (first | omega | (simp <;> omega)))))).mono ?_); rintro e wA ⟨rfl, hbA⟩) | fail)
  go_ret
  exact ⟨rfl, (by repeat (first | (with_reducible exact Below.refl _ _) | (with_reducible assumption) | ((with_reducible refine Below.alloc ?_ ?_ _); rotate_left; (first | omega | (simp <;> omega))) | ((with_reducible refine Below.setCell ?_ ?_ _); rotate_left; (first | omega | (simp <;> omega))) | (with_reducible refine below_drewN ?_ _) | (with_reducible refine Below.drew ?_) | ((with_reducible refine Below.step (by assumption) ?_ ?_); rotate_left; (first | omega | (simp <;> omega)))))⟩
set_option maxHeartbeats 8000000 in
theorem L_szNodeS {lo : Nat} {A : Option Addr} {c : Nat} {l : List ENode} {left : Int} (w : World) (h : RowL nodeE lo w (.slice A l.length c) l) (h1 : 0 ≤ left) (h2 : left ≤ 1048576) :
    Calls Tryz.prog 67 #[.slice A l.length c, .int .i64 left] w fun e w' => ∃ r : Int, e = .returned (.int .i64 r) ∧ -1 ≤ r ∧ r ≤ left ∧ (0 ≤ r → l.length ≤ 1048576 ∧ ∀ x ∈ l, nodeB x) ∧ Below w.heap.size w w' := by
  obtain ⟨A0, c0, e0, hlc, hcm⟩ := h.slice
  injection e0 with e1 e2 e3
  subst e1; subst e3
  unfold maxLen at hcm
  have H0 := Lib.hid h
  clear h e2
  by_cases hlt0 : left < l.length
  · have q1 : left - (l.length : Int) < 0 := by omega
    go_enter Tryz.func67, Tryz.ntmps67
    go_wp2_with fail
    go_ret
    exact ⟨-1, rfl, by omega, by omega, fun h => absurd h (by omega), (by repeat (first | (with_reducible exact Below.refl _ _) | (with_reducible assumption) | ((with_reducible refine Below.alloc ?_ ?_ _); rotate_left; (first | omega | (simp <;> omega))) | ((with_reducible refine Below.setCell ?_ ?_ _); rotate_left; (first | omega | (simp <;> omega))) | (with_reducible refine below_drewN ?_ _) | (with_reducible refine Below.drew ?_) | ((with_reducible refine Below.step (by assumption) ?_ ?_); rotate_left; (first | omega | (simp <;> omega)))))⟩
  have q1 : ¬ left - (l.length : Int) < 0 := by omega
  go_enter Tryz.func67, Tryz.ntmps67
  go_wp2_with fail
  go_loopw [1, 5] (fun v i wr => ∃ (k : Nat) (r : Int), k ≤ l.length ∧ i = .int .i64 k ∧ v = .int .i64 r ∧ 0 ≤ r ∧ r ≤ left - l.length ∧ (∀ (j : Nat) (hj : j < l.length), j < k → nodeB l[j]) ∧ Below w.heap.size w wr) (fun _ i _ => l.length - (RowKit.intOf i).toNat)
  case atStart => exact ⟨0, _, Nat.zero_le _, rfl, rfl, by omega, by omega, fun j hj h => absurd h (by omega), (by repeat (first | (with_reducible exact Below.refl _ _) | (with_reducible assumption) | ((with_reducible refine Below.alloc ?_ ?_ _); rotate_left; (first | omega | (simp <;> omega))) | ((with_reducible refine Below.setCell ?_ ?_ _); rotate_left; (first | omega | (simp <;> omega))) | (with_reducible refine below_drewN ?_ _) | (with_reducible refine Below.drew ?_) | ((with_reducible refine Below.step (by assumption) ?_ ?_); rotate_left; (first | omega | (simp <;> omega)))))⟩
  case round =>
    obtain ⟨k, r, hk, rfl, rfl, hr0, hr1, hB, hb⟩ := hrel
    obtain ⟨wo, rfl⟩ : ∃ wo, wo = wr := ⟨_, rfl⟩
    have hz := hb.size
    have HBN := Lib.hid hB
    have HB := Lib.hid hb
    clear hB hb
    by_cases hlt : k < l.length
    · obtain ⟨b, o, ys, rfl, hbh, hyl, hp, hcell⟩ := (H0.out.step HB.out).at_ hlt
      have hld := loadAt_cells (P := Tryz.prog) (T := 140) (w := wo) (b := b) (o := o + k * 4) (cs := ys) Tryz.underlying140 rfl (by rw [hyl]; kernel_rfl) hcell
      have HLD := Lib.hid hld
      have HC : Hid (∀ wx, Below wo.heap.size wo wx → Calls Tryz.prog 100 #[.agg ⟨ys⟩, .int .i64 r] wx fun e w' => ∃ r2 : Int, e = .returned (.int .i64 r2) ∧ -1 ≤ r2 ∧ r2 ≤ r ∧ (0 ≤ r2 → nodeB l[k]) ∧ Below wx.heap.size wx w') := Lib.hid (fun wx hbx => L_szNode wx (nodeE.keep hp (Up.of_below hbx)) hr0 (by omega))
      have i1 : (k : Int) < l.length := by omega
      have i2 : (0 : Int) ≤ k := by omega
      clear hcell hp hyl hld
      generalize Value.agg ⟨ys⟩ = V at *
      go_wp2_with (first | (refine wpList_loadE rfl 140 (.tmp 20) rfl rfl HLD.out ?_) | fail)
      refine (HC.out _ (by repeat (first | (with_reducible exact Below.refl _ _) | (with_reducible assumption) | ((with_reducible refine Below.alloc ?_ ?_ _); rotate_left; (first | omega | (simp <;> omega))) | ((with_reducible refine Below.setCell ?_ ?_ _); rotate_left; (first | omega | (simp <;> omega))) | (with_reducible refine below_drewN ?_ _) | (with_reducible refine Below.drew ?_) | ((with_reducible refine Below.step (by assumption) ?_ ?_); rotate_left; (first | omega | (simp <;> omega)))))).mono ?_
      rintro e wA ⟨r2, rfl, g1, g2, g3, hbA⟩
      have HB2 : Hid (Below w.heap.size w wA) := Lib.hid (Below.step hbA (by repeat (first | (with_reducible exact Below.refl _ _) | (with_reducible exact HB.out) | (with_reducible assumption) | ((with_reducible refine Below.alloc ?_ ?_ _); rotate_left; (first | omega | (simp <;> omega))) | ((with_reducible refine Below.setCell ?_ ?_ _); rotate_left; (first | omega | (simp <;> omega))) | (with_reducible refine below_drewN ?_ _) | (with_reducible refine Below.drew ?_) | ((with_reducible refine Below.step (by assumption) ?_ ?_); rotate_left; (first | omega | (simp <;> omega))))) (by first | omega | (simp <;> omega)))
      have HG3 := Lib.hid g3
      clear hbA g3
      rcases (show r2 < 0 ∨ 0 ≤ r2 by omega) with g4 | g4
      · go_wp2_with fail
        go_ret
        exact ⟨-1, rfl, by omega, by omega, fun h => absurd h (by omega), HB2.out⟩
      · have g5 : ¬ r2 < 0 := by omega
        go_wp2_with fail
        go_roundw
        case rel => exact ⟨k + 1, r2, by omega, by go_num, rfl, g4, by omega, fun j hj hjk => by
            by_cases e : j = k
            · subst e; exact HG3.out g4
            · exact HBN.out j hj (by omega), HB2.out⟩
        case measure => simp [RowKit.intOf] <;> omega
    · obtain rfl : k = l.length := by omega
      go_wp2_with fail
      go_ret
      exact ⟨r, rfl, by omega, by omega, fun _ => ⟨by omega, fun x hx => by obtain ⟨i, hi, rfl⟩ := List.getElem_of_mem hx; exact HBN.out i hi hi⟩, HB.out⟩
set_option maxHeartbeats 8000000 in
theorem L_toNodeS {lo : Nat} {A : Option Addr} {c : Nat} {l : List ENode} (w : World) (h : RowL nodeE lo w (.slice A l.length c) l) (hn : l.length ≤ 1048576) (hB : ∀ x ∈ l, nodeB x) :
    Calls Tryz.prog 80 #[.slice A l.length c] w fun e w' => ∃ v, e = .returned v ∧ RowL nodeE w.heap.size w' v l ∧ Below w.heap.size w w' := by
  have H0 := Lib.hid h
  have HBN := Lib.hid hB
  clear h hB
  have hmk := fun W => run_mk (P := Tryz.prog) 67 111 _ 4 56 Tryz.underlying67 T.infoNode l.length (by omega) (by omega) W
  have ho : Own (w.alloc (.cells (madeCells #[Value.int .i64 0, .string ByteArray.empty, .int .i64 0, .slice none 0 0] (l.length * 4)) 111)) w.heap.size 111 (madeCells #[Value.int .i64 0, .string ByteArray.empty, .int .i64 0, .slice none 0 0] (l.length * 4)).toList := Own.new _ _ _
  have hl : (madeCells #[Value.int .i64 0, .string ByteArray.empty, .int .i64 0, .slice none 0 0] (l.length * 4)).toList.length = l.length * 4 := by simp [size_madeCells]
  have HO := Lib.hid ho
  have HL := Lib.hid hl
  clear ho hl
  go_enter Tryz.func80, Tryz.ntmps80
  go_wp2_with fail
  clear hmk
  go_loopw [4] (fun i wr => ∃ (k : Nat) (cs : List Value), k ≤ l.length ∧ i = .int .i64 k ∧ FillL nodeE (w.heap.size + 1) wr l cs k ∧ Own wr w.heap.size 111 cs ∧ Below w.heap.size w wr) (fun i _ => l.length - (RowKit.intOf i).toNat)
  case atStart => exact ⟨0, _, Nat.zero_le _, rfl, ⟨HL.out, fun j hj h => absurd h (by omega)⟩, HO.out, (by repeat (first | (with_reducible exact Below.refl _ _) | (with_reducible assumption) | ((with_reducible refine Below.alloc ?_ ?_ _); rotate_left; (first | omega | (simp <;> omega))) | ((with_reducible refine Below.setCell ?_ ?_ _); rotate_left; (first | omega | (simp <;> omega))) | (with_reducible refine below_drewN ?_ _) | (with_reducible refine Below.drew ?_) | ((with_reducible refine Below.step (by assumption) ?_ ?_); rotate_left; (first | omega | (simp <;> omega)))))⟩
  case round =>
    obtain ⟨k, cs, hk, rfl, hf, ho, hb⟩ := hrel
    obtain ⟨wo, rfl⟩ : ∃ wo, wo = wr := ⟨_, rfl⟩
    have hol := ho.lt
    have hz := hb.size
    have HF := Lib.hid hf
    have HOW := Lib.hid ho
    have HB := Lib.hid hb
    clear hf ho hb HO HL
    by_cases hlt : k < l.length
    · obtain ⟨b, o, ys, rfl, hbh, hyl, hp, hcell⟩ := (H0.out.step HB.out).at_ hlt
      have hld := loadAt_cells (P := Tryz.prog) (T := 140) (w := wo) (b := b) (o := o + k * 4) (cs := ys) Tryz.underlying140 rfl (by rw [hyl]; kernel_rfl) hcell
      have HLD := Lib.hid hld
      have hbx := HBN.out _ (List.getElem_mem hlt)
      have HC : Hid (∀ wx, Below wo.heap.size wo wx → Calls Tryz.prog 108 #[.agg ⟨ys⟩] wx fun e w' => ∃ zs, e = .returned (.agg ⟨zs⟩) ∧ nodeE.P wx.heap.size w' zs l[k] ∧ Below wx.heap.size wx w') := Lib.hid (fun wx hb => L_toNode wx (nodeE.keep hp (Up.of_below hb)) hbx)
      have i1 : (k : Int) < l.length := by omega
      have i2 : (0 : Int) ≤ k := by omega
      clear hcell hp hyl hld hbx
      generalize Value.agg ⟨ys⟩ = V at *
      go_wp2_with (first | (refine wpList_loadE rfl 140 (.tmp 19) rfl rfl HLD.out ?_) | (refine wpList_loadE rfl 140 (.tmp 18) rfl rfl HLD.out ?_) | fail)
      refine (HC.out _ (by repeat (first | (with_reducible exact Below.refl _ _) | (with_reducible assumption) | ((with_reducible refine Below.alloc ?_ ?_ _); rotate_left; (first | omega | (simp <;> omega))) | ((with_reducible refine Below.setCell ?_ ?_ _); rotate_left; (first | omega | (simp <;> omega))) | (with_reducible refine below_drewN ?_ _) | (with_reducible refine Below.drew ?_) | ((with_reducible refine Below.step (by assumption) ?_ ?_); rotate_left; (first | omega | (simp <;> omega)))))).mono ?_
      rintro e wA ⟨zs, rfl, hpz, hbA⟩
      have hzl := nodeE.len hpz
      have hAo : Own wA w.heap.size 111 cs := Own.step hbA HOW.out
      have hle : k * 4 + 4 ≤ l.length * 4 := by omega
      obtain ⟨w2, hst, ho2, hbk, hs2, e1, e2, e3⟩ := store_big (P := Tryz.prog) (T := 111) (zs := zs) (k := k * 4) hAo (by rw [hzl]; kernel_rfl) (by rw [HF.out.1, hzl]; exact hle) (nodeE.one hpz)
      rw [hzl] at ho2
      have hz4 := hbA.size
      have HST := Lib.hid hst
      have HO2 := Lib.hid ho2
      have hup : Up (w.heap.size + 1) wA w2 := ⟨by omega, fun b h _ => hbk b (by omega)⟩
      have HF2 : Hid (FillL nodeE (w.heap.size + 1) w2 l (cs.take (k * 4) ++ zs ++ cs.drop (k * 4 + 4)) (k + 1)) := Lib.hid (((HF.out.keep (Up.of_below hbA)).keep hup).succ hlt (nodeE.keep (nodeE.mono hpz (by omega)) hup))
      have HB2 : Hid (Below w.heap.size w w2) := Lib.hid (Below.trans (Below.step hbA HB.out HB.out.size) ⟨e1, e2, e3, by omega, fun b h => hbk b (by omega)⟩)
      clear hpz hbA hAo hst ho2 hbk hs2 e1 e2 e3 hup hzl
      go_wp2_with (first | (refine wpList_storeE rfl 111 (.tmp 21) (.tmp 20) rfl rfl rfl HST.out ?_) | fail)
      go_roundw
      case rel => exact ⟨k + 1, _, by omega, by go_num, HF2.out, HO2.out, HB2.out⟩
      case measure => simp [RowKit.intOf] <;> omega
    · obtain rfl : k = l.length := by omega
      go_wp2_with fail
      go_ret
      refine ⟨_, rfl, ⟨some ⟨w.heap.size, 0, none⟩, l.length, cs, rfl, HOW.out.rs HF.out.1 hn, fun x hx => by simp [gOf] at hx; omega, fun i hi => nodeE.mono (HF.out.2 i hi hi) (by omega)⟩, HB.out⟩
set_option maxHeartbeats 8000000 in
theorem L_eqNodeS {lo lo' : Nat} {A A2 : Option Addr} {c c2 : Nat} {l : List ENode} (w : World) (h : RowL nodeE lo w (.slice A l.length c) l) (h' : RowL nodeE lo' w (.slice A2 l.length c2) l) :
    Calls Tryz.prog 96 #[.slice A l.length c, .slice A2 l.length c2] w fun e w' => e = .returned (.bool true) ∧ Below w.heap.size w w' := by
  obtain ⟨A0, c0, e0, hlc, hcm⟩ := h.slice
  injection e0 with e1 e2 e3
  subst e1; subst e3
  unfold maxLen at hcm
  have H0 := Lib.hid h
  have H1 := Lib.hid h'
  have hne : ((l.length : Int) != (l.length : Int)) = false := by simp
  clear h h' e2
  go_enter Tryz.func96, Tryz.ntmps96
  go_wp2_with fail
  go_loopw [5] (fun i wr => ∃ k : Nat, k ≤ l.length ∧ i = .int .i64 k ∧ Below w.heap.size w wr) (fun i _ => l.length - (RowKit.intOf i).toNat)
  case atStart => exact ⟨0, Nat.zero_le _, rfl, (by repeat (first | (with_reducible exact Below.refl _ _) | (with_reducible assumption) | ((with_reducible refine Below.alloc ?_ ?_ _); rotate_left; (first | omega | (simp <;> omega))) | ((with_reducible refine Below.setCell ?_ ?_ _); rotate_left; (first | omega | (simp <;> omega))) | (with_reducible refine below_drewN ?_ _) | (with_reducible refine Below.drew ?_) | ((with_reducible refine Below.step (by assumption) ?_ ?_); rotate_left; (first | omega | (simp <;> omega)))))⟩
  case round =>
    obtain ⟨k, hk, rfl, hb⟩ := hrel
    obtain ⟨wo, rfl⟩ : ∃ wo, wo = wr := ⟨_, rfl⟩
    have hz := hb.size
    have HB := Lib.hid hb
    clear hb
    by_cases hlt : k < l.length
    · obtain ⟨b, o, ys, rfl, hbh, hyl, hp, hcell⟩ := (H0.out.step HB.out).at_ hlt
      obtain ⟨b', o', ys', rfl, hbh', hyl', hp', hcell'⟩ := (H1.out.step HB.out).at_ hlt
      have HLD : Hid (∀ wx, (∀ o, wx.cell? ⟨b, o, none⟩ = wo.cell? ⟨b, o, none⟩) → (Instr.loadAt 111 (.pointer (some ⟨b, o + k * 4, none⟩))).run Tryz.prog wx = .ok (.agg ⟨ys⟩) wx) := Lib.hid (fun wx hx => loadAt_cells (P := Tryz.prog) Tryz.underlying111 rfl (by rw [hyl]; kernel_rfl) (fun j v hv => by rw [hx]; exact hcell j v hv))
      have HLD' : Hid (∀ wx, (∀ o, wx.cell? ⟨b', o, none⟩ = wo.cell? ⟨b', o, none⟩) → (Instr.loadAt 111 (.pointer (some ⟨b', o' + k * 4, none⟩))).run Tryz.prog wx = .ok (.agg ⟨ys'⟩) wx) := Lib.hid (fun wx hx => loadAt_cells (P := Tryz.prog) Tryz.underlying111 rfl (by rw [hyl']; kernel_rfl) (fun j v hv => by rw [hx]; exact hcell' j v hv))
      have HC : Hid (∀ wx, Below wo.heap.size wo wx → Calls Tryz.prog 130 #[.agg ⟨ys⟩, .agg ⟨ys'⟩] wx fun e w' => e = .returned (.bool true) ∧ Below wx.heap.size wx w') := Lib.hid (fun wx hb => L_eqNode wx (nodeE.keep hp (Up.of_below hb)) (nodeE.keep hp' (Up.of_below hb)))
      have i1 : (k : Int) < l.length := by omega
      have i2 : (0 : Int) ≤ k := by omega
      clear hcell hp hyl hcell' hp' hyl'
      generalize Value.agg ⟨ys⟩ = V at *
      generalize Value.agg ⟨ys'⟩ = V' at *
      go_upto_region 6 with fail
      refine wp_region_held_drew (S := fun w' => (Instr.loadAt 111 (.pointer (some ⟨b, o + k * 4, none⟩))).run Tryz.prog w' = .ok V w' ∧ (Instr.loadAt 111 (.pointer (some ⟨b', o' + k * 4, none⟩))).run Tryz.prog w' = .ok V' w') (by kernel_rfl) ?_ (fun hHeld1 => ?_)
      · exact ⟨HLD.out _ (fun _ => rfl), HLD'.out _ (fun _ => rfl)⟩
      (refine wpAnyH_take (i := 0) (v := ?_) rfl (by kernel_rfl) (by kernel_rfl) (by kernel_rfl) (fun _ _ _ h => h) (Or.inl ⟨by rfl, ?_⟩) (by assumption) ?_; rotate_left; focus (intro w hSw; (try dsimp only at hSw); go_simp; try with_reducible rfl)); (try simp only [List.getElem_toArray, List.getElem_cons_succ, List.getElem_cons_zero, Act.put, List.setIfInBounds_toArray, List.set_cons_zero, List.set_cons_succ])
      (refine wpAnyH_take (i := 1) (v := ?_) rfl (by kernel_rfl) (by kernel_rfl) (by kernel_rfl) (fun _ _ _ h => h) (Or.inl ⟨by rfl, ?_⟩) (by assumption) ?_; rotate_left; focus (intro w hSw; (try dsimp only at hSw); go_simp; try with_reducible rfl)); (try simp only [List.getElem_toArray, List.getElem_cons_succ, List.getElem_cons_zero, Act.put, List.setIfInBounds_toArray, List.set_cons_zero, List.set_cons_succ])
      (refine wpAnyH_take (i := 2) (v := ?_) rfl (by kernel_rfl) (by kernel_rfl) (by kernel_rfl) (fun _ _ _ h => h) (Or.inl ⟨by rfl, ?_⟩) (by assumption) ?_; rotate_left; focus (intro w hSw; (try dsimp only at hSw); go_simp; try with_reducible rfl)); (try simp only [List.getElem_toArray, List.getElem_cons_succ, List.getElem_cons_zero, Act.put, List.setIfInBounds_toArray, List.set_cons_zero, List.set_cons_succ])
      (refine wpAnyH_take (i := 3) (v := V) rfl (by kernel_rfl) (by kernel_rfl) (by kernel_rfl) (fun _ _ _ h => h) (Or.inl ⟨by rfl, fun w hSw => run_loadE rfl rfl hSw.1⟩) (by assumption) ?_); (try simp only [List.getElem_toArray, List.getElem_cons_succ, List.getElem_cons_zero, Act.put, List.setIfInBounds_toArray, List.set_cons_zero, List.set_cons_succ])
      (refine wpAnyH_take (i := 4) (v := ?_) rfl (by kernel_rfl) (by kernel_rfl) (by kernel_rfl) (fun _ _ _ h => h) (Or.inl ⟨by rfl, ?_⟩) (by assumption) ?_; rotate_left; focus (intro w hSw; (try dsimp only at hSw); go_simp; try with_reducible rfl)); (try simp only [List.getElem_toArray, List.getElem_cons_succ, List.getElem_cons_zero, Act.put, List.setIfInBounds_toArray, List.set_cons_zero, List.set_cons_succ])
      (refine wpAnyH_take (i := 5) (v := ?_) rfl (by kernel_rfl) (by kernel_rfl) (by kernel_rfl) (fun _ _ _ h => h) (Or.inl ⟨by rfl, ?_⟩) (by assumption) ?_; rotate_left; focus (intro w hSw; (try dsimp only at hSw); go_simp; try with_reducible rfl)); (try simp only [List.getElem_toArray, List.getElem_cons_succ, List.getElem_cons_zero, Act.put, List.setIfInBounds_toArray, List.set_cons_zero, List.set_cons_succ])
      (refine wpAnyH_take (i := 6) (v := ?_) rfl (by kernel_rfl) (by kernel_rfl) (by kernel_rfl) (fun _ _ _ h => h) (Or.inl ⟨by rfl, ?_⟩) (by assumption) ?_; rotate_left; focus (intro w hSw; (try dsimp only at hSw); go_simp; try with_reducible rfl)); (try simp only [List.getElem_toArray, List.getElem_cons_succ, List.getElem_cons_zero, Act.put, List.setIfInBounds_toArray, List.set_cons_zero, List.set_cons_succ])
      (refine wpAnyH_take (i := 7) (v := V') rfl (by kernel_rfl) (by kernel_rfl) (by kernel_rfl) (fun _ _ _ h => h) (Or.inl ⟨by rfl, fun w hSw => run_loadE rfl rfl hSw.2⟩) (by assumption) ?_); (try simp only [List.getElem_toArray, List.getElem_cons_succ, List.getElem_cons_zero, Act.put, List.setIfInBounds_toArray, List.set_cons_zero, List.set_cons_succ])
      refine wpAnyH_ready (rs := [8]) (by kernel_rfl) (by simp) ?_
      refine AllReadyH.cons rfl (fun K hK => ?_) AllReadyH.nil
      go_simp
      (go_at_call 130; (refine (HC.out _ (by repeat (first | (with_reducible exact Below.refl _ _) | (with_reducible assumption) | ((with_reducible refine Below.alloc ?_ ?_ _); rotate_left; (first | omega | (simp <;> omega))) | ((with_reducible refine Below.setCell ?_ ?_ _); rotate_left; (first | omega | (simp <;> omega))) | (with_reducible refine below_drewN ?_ _) | (with_reducible refine Below.drew ?_) | ((with_reducible refine Below.step (by assumption) ?_ ?_); rotate_left; (first | omega | (simp <;> omega)))))).mono ?_); rintro e wA ⟨rfl, hbA⟩)
      (try go_wp2_with fail)
      refine hK.out _ _ ?_ (fun hHeld2 => ?_)
      · exact ⟨HLD.out _ (fun p => hbA.cell (p := ⟨b, p, none⟩) (by simpa using hbh)), HLD'.out _ (fun p => hbA.cell (p := ⟨b', p, none⟩) (by simpa using hbh'))⟩
      have HB2 : Hid (Below w.heap.size w wA) := Lib.hid (Below.step hbA (by repeat (first | (with_reducible exact Below.refl _ _) | (with_reducible exact HB.out) | (with_reducible assumption) | ((with_reducible refine Below.alloc ?_ ?_ _); rotate_left; (first | omega | (simp <;> omega))) | ((with_reducible refine Below.setCell ?_ ?_ _); rotate_left; (first | omega | (simp <;> omega))) | (with_reducible refine below_drewN ?_ _) | (with_reducible refine Below.drew ?_) | ((with_reducible refine Below.step (by assumption) ?_ ?_); rotate_left; (first | omega | (simp <;> omega))))) (by first | omega | (simp <;> omega)))
      clear hK K hHeld1 hbA
      (try simp only [List.getElem_toArray, List.getElem_cons_succ, List.getElem_cons_zero, Act.put, List.setIfInBounds_toArray, List.set_cons_zero, List.set_cons_succ])
      (refine wpAnyH_take (i := 9) (v := ?_) rfl (by kernel_rfl) (by kernel_rfl) (by kernel_rfl) (fun _ _ _ h => h) (Or.inl ⟨by rfl, ?_⟩) (by assumption) ?_; rotate_left; focus (intro w hSw; (try dsimp only at hSw); go_simp; try with_reducible rfl)); (try simp only [List.getElem_toArray, List.getElem_cons_succ, List.getElem_cons_zero, Act.put, List.setIfInBounds_toArray, List.set_cons_zero, List.set_cons_succ])
      refine wpAnyH_done (by kernel_rfl) ?_ _
      all_goals
        go_wp2_with fail
        go_roundw
        case rel => exact ⟨k + 1, by omega, by go_num, (by repeat (first | (with_reducible exact Below.refl _ _) | (with_reducible exact HB2.out) | (with_reducible assumption) | ((with_reducible refine Below.alloc ?_ ?_ _); rotate_left; (first | omega | (simp <;> omega))) | ((with_reducible refine Below.setCell ?_ ?_ _); rotate_left; (first | omega | (simp <;> omega))) | (with_reducible refine below_drewN ?_ _) | (with_reducible refine Below.drew ?_) | ((with_reducible refine Below.step (by assumption) ?_ ?_); rotate_left; (first | omega | (simp <;> omega)))))⟩
        case measure => simp [RowKit.intOf] <;> omega
    · obtain rfl : k = l.length := by omega
      go_wp2_with fail
      go_ret
      exact ⟨rfl, HB.out⟩
set_option maxHeartbeats 8000000 in
theorem L_szAssignmentS {lo : Nat} {A : Option Addr} {c : Nat} {l : List EAssign} {left : Int} (w : World) (h : RowL assE lo w (.slice A l.length c) l) (h1 : 0 ≤ left) (h2 : left ≤ 1048576) :
    Calls Tryz.prog 68 #[.slice A l.length c, .int .i64 left] w fun e w' => ∃ r : Int, e = .returned (.int .i64 r) ∧ -1 ≤ r ∧ r ≤ left ∧ (0 ≤ r → l.length ≤ 1048576 ∧ ∀ x ∈ l, assB x) ∧ Below w.heap.size w w' := by
  obtain ⟨A0, c0, e0, hlc, hcm⟩ := h.slice
  injection e0 with e1 e2 e3
  subst e1; subst e3
  unfold maxLen at hcm
  have H0 := Lib.hid h
  clear h e2
  by_cases hlt0 : left < l.length
  · have q1 : left - (l.length : Int) < 0 := by omega
    go_enter Tryz.func68, Tryz.ntmps68
    go_wp2_with fail
    go_ret
    exact ⟨-1, rfl, by omega, by omega, fun h => absurd h (by omega), (by repeat (first | (with_reducible exact Below.refl _ _) | (with_reducible assumption) | ((with_reducible refine Below.alloc ?_ ?_ _); rotate_left; (first | omega | (simp <;> omega))) | ((with_reducible refine Below.setCell ?_ ?_ _); rotate_left; (first | omega | (simp <;> omega))) | (with_reducible refine below_drewN ?_ _) | (with_reducible refine Below.drew ?_) | ((with_reducible refine Below.step (by assumption) ?_ ?_); rotate_left; (first | omega | (simp <;> omega)))))⟩
  have q1 : ¬ left - (l.length : Int) < 0 := by omega
  go_enter Tryz.func68, Tryz.ntmps68
  go_wp2_with fail
  go_loopw [1, 5] (fun v i wr => ∃ (k : Nat) (r : Int), k ≤ l.length ∧ i = .int .i64 k ∧ v = .int .i64 r ∧ 0 ≤ r ∧ r ≤ left - l.length ∧ (∀ (j : Nat) (hj : j < l.length), j < k → assB l[j]) ∧ Below w.heap.size w wr) (fun _ i _ => l.length - (RowKit.intOf i).toNat)
  case atStart => exact ⟨0, _, Nat.zero_le _, rfl, rfl, by omega, by omega, fun j hj h => absurd h (by omega), (by repeat (first | (with_reducible exact Below.refl _ _) | (with_reducible assumption) | ((with_reducible refine Below.alloc ?_ ?_ _); rotate_left; (first | omega | (simp <;> omega))) | ((with_reducible refine Below.setCell ?_ ?_ _); rotate_left; (first | omega | (simp <;> omega))) | (with_reducible refine below_drewN ?_ _) | (with_reducible refine Below.drew ?_) | ((with_reducible refine Below.step (by assumption) ?_ ?_); rotate_left; (first | omega | (simp <;> omega)))))⟩
  case round =>
    obtain ⟨k, r, hk, rfl, rfl, hr0, hr1, hB, hb⟩ := hrel
    obtain ⟨wo, rfl⟩ : ∃ wo, wo = wr := ⟨_, rfl⟩
    have hz := hb.size
    have HBN := Lib.hid hB
    have HB := Lib.hid hb
    clear hB hb
    by_cases hlt : k < l.length
    · obtain ⟨b, o, ys, rfl, hbh, hyl, hp, hcell⟩ := (H0.out.step HB.out).at_ hlt
      have hld := loadAt_cells (P := Tryz.prog) (T := 142) (w := wo) (b := b) (o := o + k * 2) (cs := ys) Tryz.underlying142 rfl (by rw [hyl]; kernel_rfl) hcell
      have HLD := Lib.hid hld
      have HC : Hid (∀ wx, Below wo.heap.size wo wx → Calls Tryz.prog 101 #[.agg ⟨ys⟩, .int .i64 r] wx fun e w' => ∃ r2 : Int, e = .returned (.int .i64 r2) ∧ -1 ≤ r2 ∧ r2 ≤ r ∧ (0 ≤ r2 → assB l[k]) ∧ Below wx.heap.size wx w') := Lib.hid (fun wx hbx => L_szAssignment wx (assE.keep hp (Up.of_below hbx)) hr0 (by omega))
      have i1 : (k : Int) < l.length := by omega
      have i2 : (0 : Int) ≤ k := by omega
      clear hcell hp hyl hld
      generalize Value.agg ⟨ys⟩ = V at *
      go_wp2_with (first | (refine wpList_loadE rfl 142 (.tmp 20) rfl rfl HLD.out ?_) | fail)
      refine (HC.out _ (by repeat (first | (with_reducible exact Below.refl _ _) | (with_reducible assumption) | ((with_reducible refine Below.alloc ?_ ?_ _); rotate_left; (first | omega | (simp <;> omega))) | ((with_reducible refine Below.setCell ?_ ?_ _); rotate_left; (first | omega | (simp <;> omega))) | (with_reducible refine below_drewN ?_ _) | (with_reducible refine Below.drew ?_) | ((with_reducible refine Below.step (by assumption) ?_ ?_); rotate_left; (first | omega | (simp <;> omega)))))).mono ?_
      rintro e wA ⟨r2, rfl, g1, g2, g3, hbA⟩
      have HB2 : Hid (Below w.heap.size w wA) := Lib.hid (Below.step hbA (by repeat (first | (with_reducible exact Below.refl _ _) | (with_reducible exact HB.out) | (with_reducible assumption) | ((with_reducible refine Below.alloc ?_ ?_ _); rotate_left; (first | omega | (simp <;> omega))) | ((with_reducible refine Below.setCell ?_ ?_ _); rotate_left; (first | omega | (simp <;> omega))) | (with_reducible refine below_drewN ?_ _) | (with_reducible refine Below.drew ?_) | ((with_reducible refine Below.step (by assumption) ?_ ?_); rotate_left; (first | omega | (simp <;> omega))))) (by first | omega | (simp <;> omega)))
      have HG3 := Lib.hid g3
      clear hbA g3
      rcases (show r2 < 0 ∨ 0 ≤ r2 by omega) with g4 | g4
      · go_wp2_with fail
        go_ret
        exact ⟨-1, rfl, by omega, by omega, fun h => absurd h (by omega), HB2.out⟩
      · have g5 : ¬ r2 < 0 := by omega
        go_wp2_with fail
        go_roundw
        case rel => exact ⟨k + 1, r2, by omega, by go_num, rfl, g4, by omega, fun j hj hjk => by
            by_cases e : j = k
            · subst e; exact HG3.out g4
            · exact HBN.out j hj (by omega), HB2.out⟩
        case measure => simp [RowKit.intOf] <;> omega
    · obtain rfl : k = l.length := by omega
      go_wp2_with fail
      go_ret
      exact ⟨r, rfl, by omega, by omega, fun _ => ⟨by omega, fun x hx => by obtain ⟨i, hi, rfl⟩ := List.getElem_of_mem hx; exact HBN.out i hi hi⟩, HB.out⟩
set_option maxHeartbeats 8000000 in
theorem L_toAssignmentS {lo : Nat} {A : Option Addr} {c : Nat} {l : List EAssign} (w : World) (h : RowL assE lo w (.slice A l.length c) l) (hn : l.length ≤ 1048576) (hB : ∀ x ∈ l, assB x) :
    Calls Tryz.prog 81 #[.slice A l.length c] w fun e w' => ∃ v, e = .returned v ∧ RowL assE w.heap.size w' v l ∧ Below w.heap.size w w' := by
  have H0 := Lib.hid h
  have HBN := Lib.hid hB
  clear h hB
  have hmk := fun W => run_mk (P := Tryz.prog) 68 114 _ 2 24 Tryz.underlying68 T.infoAss l.length (by omega) (by omega) W
  have ho : Own (w.alloc (.cells (madeCells #[Value.string ByteArray.empty, .int .i64 0] (l.length * 2)) 114)) w.heap.size 114 (madeCells #[Value.string ByteArray.empty, .int .i64 0] (l.length * 2)).toList := Own.new _ _ _
  have hl : (madeCells #[Value.string ByteArray.empty, .int .i64 0] (l.length * 2)).toList.length = l.length * 2 := by simp [size_madeCells]
  have HO := Lib.hid ho
  have HL := Lib.hid hl
  clear ho hl
  go_enter Tryz.func81, Tryz.ntmps81
  go_wp2_with fail
  clear hmk
  go_loopw [4] (fun i wr => ∃ (k : Nat) (cs : List Value), k ≤ l.length ∧ i = .int .i64 k ∧ FillL assE (w.heap.size + 1) wr l cs k ∧ Own wr w.heap.size 114 cs ∧ Below w.heap.size w wr) (fun i _ => l.length - (RowKit.intOf i).toNat)
  case atStart => exact ⟨0, _, Nat.zero_le _, rfl, ⟨HL.out, fun j hj h => absurd h (by omega)⟩, HO.out, (by repeat (first | (with_reducible exact Below.refl _ _) | (with_reducible assumption) | ((with_reducible refine Below.alloc ?_ ?_ _); rotate_left; (first | omega | (simp <;> omega))) | ((with_reducible refine Below.setCell ?_ ?_ _); rotate_left; (first | omega | (simp <;> omega))) | (with_reducible refine below_drewN ?_ _) | (with_reducible refine Below.drew ?_) | ((with_reducible refine Below.step (by assumption) ?_ ?_); rotate_left; (first | omega | (simp <;> omega)))))⟩
  case round =>
    obtain ⟨k, cs, hk, rfl, hf, ho, hb⟩ := hrel
    obtain ⟨wo, rfl⟩ : ∃ wo, wo = wr := ⟨_, rfl⟩
    have hol := ho.lt
    have hz := hb.size
    have HF := Lib.hid hf
    have HOW := Lib.hid ho
    have HB := Lib.hid hb
    clear hf ho hb HO HL
    by_cases hlt : k < l.length
    · obtain ⟨b, o, ys, rfl, hbh, hyl, hp, hcell⟩ := (H0.out.step HB.out).at_ hlt
      have hld := loadAt_cells (P := Tryz.prog) (T := 142) (w := wo) (b := b) (o := o + k * 2) (cs := ys) Tryz.underlying142 rfl (by rw [hyl]; kernel_rfl) hcell
      have HLD := Lib.hid hld
      have hbx := HBN.out _ (List.getElem_mem hlt)
      have HC : Hid (∀ wx, Below wo.heap.size wo wx → Calls Tryz.prog 109 #[.agg ⟨ys⟩] wx fun e w' => ∃ zs, e = .returned (.agg ⟨zs⟩) ∧ assE.P wx.heap.size w' zs l[k] ∧ Below wx.heap.size wx w') := Lib.hid (fun wx hb => L_toAssignment wx (assE.keep hp (Up.of_below hb)) hbx)
      have i1 : (k : Int) < l.length := by omega
      have i2 : (0 : Int) ≤ k := by omega
      clear hcell hp hyl hld hbx
      generalize Value.agg ⟨ys⟩ = V at *
      go_wp2_with (first | (refine wpList_loadE rfl 142 (.tmp 19) rfl rfl HLD.out ?_) | (refine wpList_loadE rfl 142 (.tmp 18) rfl rfl HLD.out ?_) | fail)
      refine (HC.out _ (by repeat (first | (with_reducible exact Below.refl _ _) | (with_reducible assumption) | ((with_reducible refine Below.alloc ?_ ?_ _); rotate_left; (first | omega | (simp <;> omega))) | ((with_reducible refine Below.setCell ?_ ?_ _); rotate_left; (first | omega | (simp <;> omega))) | (with_reducible refine below_drewN ?_ _) | (with_reducible refine Below.drew ?_) | ((with_reducible refine Below.step (by assumption) ?_ ?_); rotate_left; (first | omega | (simp <;> omega)))))).mono ?_
      rintro e wA ⟨zs, rfl, hpz, hbA⟩
      have hzl := assE.len hpz
      have hAo : Own wA w.heap.size 114 cs := Own.step hbA HOW.out
      have hle : k * 2 + 2 ≤ l.length * 2 := by omega
      obtain ⟨w2, hst, ho2, hbk, hs2, e1, e2, e3⟩ := store_big (P := Tryz.prog) (T := 114) (zs := zs) (k := k * 2) hAo (by rw [hzl]; kernel_rfl) (by rw [HF.out.1, hzl]; exact hle) (assE.one hpz)
      rw [hzl] at ho2
      have hz4 := hbA.size
      have HST := Lib.hid hst
      have HO2 := Lib.hid ho2
      have hup : Up (w.heap.size + 1) wA w2 := ⟨by omega, fun b h _ => hbk b (by omega)⟩
      have HF2 : Hid (FillL assE (w.heap.size + 1) w2 l (cs.take (k * 2) ++ zs ++ cs.drop (k * 2 + 2)) (k + 1)) := Lib.hid (((HF.out.keep (Up.of_below hbA)).keep hup).succ hlt (assE.keep (assE.mono hpz (by omega)) hup))
      have HB2 : Hid (Below w.heap.size w w2) := Lib.hid (Below.trans (Below.step hbA HB.out HB.out.size) ⟨e1, e2, e3, by omega, fun b h => hbk b (by omega)⟩)
      clear hpz hbA hAo hst ho2 hbk hs2 e1 e2 e3 hup hzl
      go_wp2_with (first | (refine wpList_storeE rfl 114 (.tmp 21) (.tmp 20) rfl rfl rfl HST.out ?_) | fail)
      go_roundw
      case rel => exact ⟨k + 1, _, by omega, by go_num, HF2.out, HO2.out, HB2.out⟩
      case measure => simp [RowKit.intOf] <;> omega
    · obtain rfl : k = l.length := by omega
      go_wp2_with fail
      go_ret
      refine ⟨_, rfl, ⟨some ⟨w.heap.size, 0, none⟩, l.length, cs, rfl, HOW.out.rs HF.out.1 hn, fun x hx => by simp [gOf] at hx; omega, fun i hi => assE.mono (HF.out.2 i hi hi) (by omega)⟩, HB.out⟩
set_option maxHeartbeats 8000000 in
theorem L_eqAssignmentS {lo lo' : Nat} {A A2 : Option Addr} {c c2 : Nat} {l : List EAssign} (w : World) (h : RowL assE lo w (.slice A l.length c) l) (h' : RowL assE lo' w (.slice A2 l.length c2) l) :
    Calls Tryz.prog 97 #[.slice A l.length c, .slice A2 l.length c2] w fun e w' => e = .returned (.bool true) ∧ Below w.heap.size w w' := by
  obtain ⟨A0, c0, e0, hlc, hcm⟩ := h.slice
  injection e0 with e1 e2 e3
  subst e1; subst e3
  unfold maxLen at hcm
  have H0 := Lib.hid h
  have H1 := Lib.hid h'
  have hne : ((l.length : Int) != (l.length : Int)) = false := by simp
  clear h h' e2
  go_enter Tryz.func97, Tryz.ntmps97
  go_wp2_with fail
  go_loopw [5] (fun i wr => ∃ k : Nat, k ≤ l.length ∧ i = .int .i64 k ∧ Below w.heap.size w wr) (fun i _ => l.length - (RowKit.intOf i).toNat)
  case atStart => exact ⟨0, Nat.zero_le _, rfl, (by repeat (first | (with_reducible exact Below.refl _ _) | (with_reducible assumption) | ((with_reducible refine Below.alloc ?_ ?_ _); rotate_left; (first | omega | (simp <;> omega))) | ((with_reducible refine Below.setCell ?_ ?_ _); rotate_left; (first | omega | (simp <;> omega))) | (with_reducible refine below_drewN ?_ _) | (with_reducible refine Below.drew ?_) | ((with_reducible refine Below.step (by assumption) ?_ ?_); rotate_left; (first | omega | (simp <;> omega)))))⟩
  case round =>
    obtain ⟨k, hk, rfl, hb⟩ := hrel
    obtain ⟨wo, rfl⟩ : ∃ wo, wo = wr := ⟨_, rfl⟩
    have hz := hb.size
    have HB := Lib.hid hb
    clear hb
    by_cases hlt : k < l.length
    · obtain ⟨b, o, ys, rfl, hbh, hyl, hp, hcell⟩ := (H0.out.step HB.out).at_ hlt
      obtain ⟨b', o', ys', rfl, hbh', hyl', hp', hcell'⟩ := (H1.out.step HB.out).at_ hlt
      have HLD : Hid (∀ wx, (∀ o, wx.cell? ⟨b, o, none⟩ = wo.cell? ⟨b, o, none⟩) → (Instr.loadAt 114 (.pointer (some ⟨b, o + k * 2, none⟩))).run Tryz.prog wx = .ok (.agg ⟨ys⟩) wx) := Lib.hid (fun wx hx => loadAt_cells (P := Tryz.prog) Tryz.underlying114 rfl (by rw [hyl]; kernel_rfl) (fun j v hv => by rw [hx]; exact hcell j v hv))
      have HLD' : Hid (∀ wx, (∀ o, wx.cell? ⟨b', o, none⟩ = wo.cell? ⟨b', o, none⟩) → (Instr.loadAt 114 (.pointer (some ⟨b', o' + k * 2, none⟩))).run Tryz.prog wx = .ok (.agg ⟨ys'⟩) wx) := Lib.hid (fun wx hx => loadAt_cells (P := Tryz.prog) Tryz.underlying114 rfl (by rw [hyl']; kernel_rfl) (fun j v hv => by rw [hx]; exact hcell' j v hv))
      have HC : Hid (∀ wx, Below wo.heap.size wo wx → Calls Tryz.prog 131 #[.agg ⟨ys⟩, .agg ⟨ys'⟩] wx fun e w' => e = .returned (.bool true) ∧ Below wx.heap.size wx w') := Lib.hid (fun wx hb => L_eqAssignment wx (assE.keep hp (Up.of_below hb)) (assE.keep hp' (Up.of_below hb)))
      have i1 : (k : Int) < l.length := by omega
      have i2 : (0 : Int) ≤ k := by omega
      clear hcell hp hyl hcell' hp' hyl'
      generalize Value.agg ⟨ys⟩ = V at *
      generalize Value.agg ⟨ys'⟩ = V' at *
      go_upto_region 6 with fail
      refine wp_region_held_drew (S := fun w' => (Instr.loadAt 114 (.pointer (some ⟨b, o + k * 2, none⟩))).run Tryz.prog w' = .ok V w' ∧ (Instr.loadAt 114 (.pointer (some ⟨b', o' + k * 2, none⟩))).run Tryz.prog w' = .ok V' w') (by kernel_rfl) ?_ (fun hHeld1 => ?_)
      · exact ⟨HLD.out _ (fun _ => rfl), HLD'.out _ (fun _ => rfl)⟩
      (refine wpAnyH_take (i := 0) (v := ?_) rfl (by kernel_rfl) (by kernel_rfl) (by kernel_rfl) (fun _ _ _ h => h) (Or.inl ⟨by rfl, ?_⟩) (by assumption) ?_; rotate_left; focus (intro w hSw; (try dsimp only at hSw); go_simp; try with_reducible rfl)); (try simp only [List.getElem_toArray, List.getElem_cons_succ, List.getElem_cons_zero, Act.put, List.setIfInBounds_toArray, List.set_cons_zero, List.set_cons_succ])
      (refine wpAnyH_take (i := 1) (v := ?_) rfl (by kernel_rfl) (by kernel_rfl) (by kernel_rfl) (fun _ _ _ h => h) (Or.inl ⟨by rfl, ?_⟩) (by assumption) ?_; rotate_left; focus (intro w hSw; (try dsimp only at hSw); go_simp; try with_reducible rfl)); (try simp only [List.getElem_toArray, List.getElem_cons_succ, List.getElem_cons_zero, Act.put, List.setIfInBounds_toArray, List.set_cons_zero, List.set_cons_succ])
      (refine wpAnyH_take (i := 2) (v := ?_) rfl (by kernel_rfl) (by kernel_rfl) (by kernel_rfl) (fun _ _ _ h => h) (Or.inl ⟨by rfl, ?_⟩) (by assumption) ?_; rotate_left; focus (intro w hSw; (try dsimp only at hSw); go_simp; try with_reducible rfl)); (try simp only [List.getElem_toArray, List.getElem_cons_succ, List.getElem_cons_zero, Act.put, List.setIfInBounds_toArray, List.set_cons_zero, List.set_cons_succ])
      (refine wpAnyH_take (i := 3) (v := V) rfl (by kernel_rfl) (by kernel_rfl) (by kernel_rfl) (fun _ _ _ h => h) (Or.inl ⟨by rfl, fun w hSw => run_loadE rfl rfl hSw.1⟩) (by assumption) ?_); (try simp only [List.getElem_toArray, List.getElem_cons_succ, List.getElem_cons_zero, Act.put, List.setIfInBounds_toArray, List.set_cons_zero, List.set_cons_succ])
      (refine wpAnyH_take (i := 4) (v := ?_) rfl (by kernel_rfl) (by kernel_rfl) (by kernel_rfl) (fun _ _ _ h => h) (Or.inl ⟨by rfl, ?_⟩) (by assumption) ?_; rotate_left; focus (intro w hSw; (try dsimp only at hSw); go_simp; try with_reducible rfl)); (try simp only [List.getElem_toArray, List.getElem_cons_succ, List.getElem_cons_zero, Act.put, List.setIfInBounds_toArray, List.set_cons_zero, List.set_cons_succ])
      (refine wpAnyH_take (i := 5) (v := ?_) rfl (by kernel_rfl) (by kernel_rfl) (by kernel_rfl) (fun _ _ _ h => h) (Or.inl ⟨by rfl, ?_⟩) (by assumption) ?_; rotate_left; focus (intro w hSw; (try dsimp only at hSw); go_simp; try with_reducible rfl)); (try simp only [List.getElem_toArray, List.getElem_cons_succ, List.getElem_cons_zero, Act.put, List.setIfInBounds_toArray, List.set_cons_zero, List.set_cons_succ])
      (refine wpAnyH_take (i := 6) (v := ?_) rfl (by kernel_rfl) (by kernel_rfl) (by kernel_rfl) (fun _ _ _ h => h) (Or.inl ⟨by rfl, ?_⟩) (by assumption) ?_; rotate_left; focus (intro w hSw; (try dsimp only at hSw); go_simp; try with_reducible rfl)); (try simp only [List.getElem_toArray, List.getElem_cons_succ, List.getElem_cons_zero, Act.put, List.setIfInBounds_toArray, List.set_cons_zero, List.set_cons_succ])
      (refine wpAnyH_take (i := 7) (v := V') rfl (by kernel_rfl) (by kernel_rfl) (by kernel_rfl) (fun _ _ _ h => h) (Or.inl ⟨by rfl, fun w hSw => run_loadE rfl rfl hSw.2⟩) (by assumption) ?_); (try simp only [List.getElem_toArray, List.getElem_cons_succ, List.getElem_cons_zero, Act.put, List.setIfInBounds_toArray, List.set_cons_zero, List.set_cons_succ])
      refine wpAnyH_ready (rs := [8]) (by kernel_rfl) (by simp) ?_
      refine AllReadyH.cons rfl (fun K hK => ?_) AllReadyH.nil
      go_simp
      (go_at_call 131; (refine (HC.out _ (by repeat (first | (with_reducible exact Below.refl _ _) | (with_reducible assumption) | ((with_reducible refine Below.alloc ?_ ?_ _); rotate_left; (first | omega | (simp <;> omega))) | ((with_reducible refine Below.setCell ?_ ?_ _); rotate_left; (first | omega | (simp <;> omega))) | (with_reducible refine below_drewN ?_ _) | (with_reducible refine Below.drew ?_) | ((with_reducible refine Below.step (by assumption) ?_ ?_); rotate_left; (first | omega | (simp <;> omega)))))).mono ?_); rintro e wA ⟨rfl, hbA⟩)
      (try go_wp2_with fail)
      refine hK.out _ _ ?_ (fun hHeld2 => ?_)
      · exact ⟨HLD.out _ (fun p => hbA.cell (p := ⟨b, p, none⟩) (by simpa using hbh)), HLD'.out _ (fun p => hbA.cell (p := ⟨b', p, none⟩) (by simpa using hbh'))⟩
      have HB2 : Hid (Below w.heap.size w wA) := Lib.hid (Below.step hbA (by repeat (first | (with_reducible exact Below.refl _ _) | (with_reducible exact HB.out) | (with_reducible assumption) | ((with_reducible refine Below.alloc ?_ ?_ _); rotate_left; (first | omega | (simp <;> omega))) | ((with_reducible refine Below.setCell ?_ ?_ _); rotate_left; (first | omega | (simp <;> omega))) | (with_reducible refine below_drewN ?_ _) | (with_reducible refine Below.drew ?_) | ((with_reducible refine Below.step (by assumption) ?_ ?_); rotate_left; (first | omega | (simp <;> omega))))) (by first | omega | (simp <;> omega)))
      clear hK K hHeld1 hbA
      (try simp only [List.getElem_toArray, List.getElem_cons_succ, List.getElem_cons_zero, Act.put, List.setIfInBounds_toArray, List.set_cons_zero, List.set_cons_succ])
      (refine wpAnyH_take (i := 9) (v := ?_) rfl (by kernel_rfl) (by kernel_rfl) (by kernel_rfl) (fun _ _ _ h => h) (Or.inl ⟨by rfl, ?_⟩) (by assumption) ?_; rotate_left; focus (intro w hSw; (try dsimp only at hSw); go_simp; try with_reducible rfl)); (try simp only [List.getElem_toArray, List.getElem_cons_succ, List.getElem_cons_zero, Act.put, List.setIfInBounds_toArray, List.set_cons_zero, List.set_cons_succ])
      refine wpAnyH_done (by kernel_rfl) ?_ _
      all_goals
        go_wp2_with fail
        go_roundw
        case rel => exact ⟨k + 1, by omega, by go_num, (by repeat (first | (with_reducible exact Below.refl _ _) | (with_reducible exact HB2.out) | (with_reducible assumption) | ((with_reducible refine Below.alloc ?_ ?_ _); rotate_left; (first | omega | (simp <;> omega))) | ((with_reducible refine Below.setCell ?_ ?_ _); rotate_left; (first | omega | (simp <;> omega))) | (with_reducible refine below_drewN ?_ _) | (with_reducible refine Below.drew ?_) | ((with_reducible refine Below.step (by assumption) ?_ ?_); rotate_left; (first | omega | (simp <;> omega)))))⟩
        case measure => simp [RowKit.intOf] <;> omega
    · obtain rfl : k = l.length := by omega
      go_wp2_with fail
      go_ret
      exact ⟨rfl, HB.out⟩
end Go.Proofs.YtjipfgadamokaaaGreatDoor
