/- Several texts in one: SceneP, VecB. -/
import Derived.Test.YtjipfgadamokaaaGreatDoorMgB
import Derived.Test.YtjipfgadamokaaaGreatDoorTxtKN
import Derived.Test.YtjipfgadamokaaaGreatDoorMgD
import Derived.Test.YtjipfgadamokaaaGreatDoorTexel
import Derived.Laws.StructEq
/- Scenes: when they are valid, their text, its hash. No machine in sight. -/
set_option linter.unusedVariables false
set_option linter.unusedSimpArgs false
namespace Go.Proofs.YtjipfgadamokaaaGreatDoor
open Go.RowKit Go.Lib
/-- A patch: four corners of three numbers. -/
abbrev EPatch := Nat → Int
/-- A surface: the two patches, the shader, the rate. -/
abbrev ESurf := EPatch × EPatch × Int × Int
def vecT (x y z : Int) : List UInt8 := fmtL [x, y, z]
def validPt (p : EPatch) : Bool := validV (p 0) (p 1) (p 2) && (validV (p 3) (p 4) (p 5) && (validV (p 6) (p 7) (p 8) && validV (p 9) (p 10) (p 11)))
def patL (p : EPatch) : List (List UInt8) := [vecT (p 0) (p 1) (p 2), vecT (p 3) (p 4) (p 5), vecT (p 6) (p 7) (p 8), vecT (p 9) (p 10) (p 11)]
def patT (p : EPatch) : List UInt8 := join (patL p) [32]
def camT (a b c d : Int) (e : Bool) (f g : Int) : List UInt8 := fmtL [a, b, c, d, if e then 1 else 0, f, g]
def texT (log : Int) (l : List Int) : List UInt8 := fmtI log ++ [58] ++ fmtL l
def flatT (l : List UInt8) : List UInt8 := l.map fun b => if b = 10 then 32 else b
def rateB (r : Int) : Bool := decide (r = 1 ∨ r = 2 ∨ r = 4 ∨ r = 8)
def sideB (r : Int) : Bool := decide (r = 1 ∨ r = 2 ∨ r = 4)
def surfOk (n : Int) (x : ESurf) : Bool := validPt x.1 && (validPt x.2.1 && (decide (0 ≤ x.2.2.1) && (decide (x.2.2.1 < n) && rateB x.2.2.2)))
structure EScene where
  a : Int
  b : Int
  c : Int
  d : Int
  e : Bool
  f : Int
  g : Int
  log : Int
  tex : List Int
  ps : List EProg
  ss : List ESurf
  side : Int
def surfsTo (n : Int) (ss : List ESurf) (k : Nat) : Bool := (ss.take k).all (surfOk n)
def shadTo (ps : List EProg) (k : Nat) : Bool := (ps.take k).all checkOk
def sceneOk (s : EScene) : Bool := validCam s.a s.b s.c s.d s.f s.g && (validTex s.log s.tex && (inB s.ps.length 1 3 && (decide (s.ss.length ≤ 5) && (sideB s.side && (shadTo s.ps s.ps.length && surfsTo s.ps.length s.ss s.ss.length)))))
def surfL (x : ESurf) : List (List UInt8) := [[115, 117, 114, 102, 97, 99, 101], fmtI x.2.2.1, fmtI x.2.2.2, patT x.1, patT x.2.1]
/-- "surface ", the shader, the rate, the patches. -/
def surfT (x : ESurf) : List UInt8 := [115, 117, 114, 102, 97, 99, 101, 32] ++ fmtI x.2.2.1 ++ [32] ++ fmtI x.2.2.2 ++ [32] ++ patT x.1 ++ [32] ++ patT x.2.1
def shadT (p : EProg) : List UInt8 := [115, 104, 97, 100, 101, 114, 32] ++ flatT (progT p)
/-- The first three lines: "camera ", "texture ", "side ". -/
def headL (s : EScene) : List (List UInt8) := [[99, 97, 109, 101, 114, 97, 32] ++ camT s.a s.b s.c s.d s.e s.f s.g, [116, 101, 120, 116, 117, 114, 101, 32] ++ texT s.log s.tex, [115, 105, 100, 101, 32] ++ fmtI s.side]
def linesOf (s : EScene) : List (List UInt8) := headL s ++ s.ps.map shadT ++ s.ss.map surfT
def sceneT (s : EScene) : List UInt8 := if sceneOk s then join (linesOf s) [10] ++ [10] else []
def byteInts (l : List UInt8) : List Int := l.map fun b => (b.toNat : Int)
def digS (s : EScene) : Int := if sceneOk s then hashF (byteInts (sceneT s)) else -1
/-- "film ", the digest, the size. -/
def headT (s : EScene) (n : Int) : List UInt8 := if sceneOk s && inB n 1 12 then [102, 105, 108, 109, 32] ++ fmtI (digS s) ++ [32] ++ fmtI n ++ [10] else []
theorem surfT_join (x : ESurf) : join (surfL x) [32] = surfT x := by
  simp [surfL, surfT, join_cons, joinTail]
theorem surfsTo_succ {n : Int} {ss : List ESurf} {k : Nat} (h : k < ss.length) : surfsTo n ss (k + 1) = (surfsTo n ss k && surfOk n ss[k]) := by
  unfold surfsTo
  rw [List.take_succ_eq_append_getElem h, List.all_append]; simp
theorem shadTo_succ {ps : List EProg} {k : Nat} (h : k < ps.length) : shadTo ps (k + 1) = (shadTo ps k && checkOk ps[k]) := by
  unfold shadTo
  rw [List.take_succ_eq_append_getElem h, List.all_append]; simp
theorem shadTo_no {ps : List EProg} {k : Nat} (h : k < ps.length) (hc : checkOk ps[k] = false) : shadTo ps ps.length = false := by
  unfold shadTo
  rw [List.take_length, List.all_eq_false]
  exact ⟨_, List.getElem_mem h, by simp [hc]⟩
theorem surfsTo_no {n : Int} {ss : List ESurf} {k : Nat} (h : k < ss.length) (hc : surfOk n ss[k] = false) : surfsTo n ss ss.length = false := by
  unfold surfsTo
  rw [List.take_length, List.all_eq_false]
  exact ⟨_, List.getElem_mem h, by simp [hc]⟩
theorem shadTo_at {ps : List EProg} {k : Nat} (h : shadTo ps ps.length = true) (hk : k < ps.length) : checkOk ps[k] = true := by
  unfold shadTo at h
  rw [List.take_length, List.all_eq_true] at h
  exact h _ (List.getElem_mem hk)
theorem surfsTo_at {n : Int} {ss : List ESurf} {k : Nat} (h : surfsTo n ss ss.length = true) (hk : k < ss.length) : surfOk n ss[k] = true := by
  unfold surfsTo at h
  rw [List.take_length, List.all_eq_true] at h
  exact h _ (List.getElem_mem hk)
theorem checkOk_valid {p : EProg} (h : checkOk p = true) : validP p = true := by
  unfold checkOk at h
  simp only [Bool.and_eq_true] at h
  exact h.1.1.1.1
structure SceneIs (s : EScene) : Prop where
  cam : validCam s.a s.b s.c s.d s.f s.g = true
  tex : validTex s.log s.tex = true
  np : 1 ≤ s.ps.length ∧ s.ps.length ≤ 3
  ns : s.ss.length ≤ 5
  side : sideB s.side = true
  shad : shadTo s.ps s.ps.length = true
  surf : surfsTo s.ps.length s.ss s.ss.length = true
theorem sceneIs {s : EScene} (h : sceneOk s = true) : SceneIs s := by
  unfold sceneOk at h
  simp only [Bool.and_eq_true, decide_eq_true_eq] at h
  obtain ⟨h1, h2, h3, h4, h5, h6, h7⟩ := h
  have := inB_true h3
  exact ⟨h1, h2, ⟨by omega, by omega⟩, h4, h5, h6, h7⟩
theorem vecT_len (x y z : Int) : (vecT x y z).length ≤ 36 := fmtL_len [x, y, z]
theorem join1_len (sep : UInt8) (ts : List (List UInt8)) : (join ts [sep]).length ≤ (ts.map List.length).sum + (ts.length - 1) := by
  cases ts with
  | nil => simp [join_nil]
  | cons a t =>
    rw [join_cons, List.length_append, List.map_cons, List.sum_cons, List.length_cons]
    have : ∀ r : List (List UInt8), (joinTail [sep] r).length = (r.map List.length).sum + r.length := by
      intro r
      induction r with
      | nil => simp [joinTail]
      | cons b s ih =>
        have e : joinTail [sep] (b :: s) = [sep] ++ b ++ joinTail [sep] s := by simp [joinTail]
        rw [e, List.length_append, List.length_append, ih, List.map_cons, List.sum_cons, List.length_cons]
        simp only [List.length_cons, List.length_nil]
        omega
    rw [this]
    omega
theorem patT_len (p : EPatch) : (patT p).length ≤ 147 := by
  have h := join1_len 32 (patL p)
  have h1 := vecT_len (p 0) (p 1) (p 2)
  have h2 := vecT_len (p 3) (p 4) (p 5)
  have h3 := vecT_len (p 6) (p 7) (p 8)
  have h4 := vecT_len (p 9) (p 10) (p 11)
  unfold patT
  simp only [patL, List.map_cons, List.map_nil, List.sum_cons, List.sum_nil, List.length_cons, List.length_nil] at h
  simp only [patL]
  omega
theorem surfT_len (x : ESurf) : (surfT x).length ≤ 328 := by
  have h1 := fmtI_len x.2.2.1
  have h2 := fmtI_len x.2.2.2
  have h3 := patT_len x.1
  have h4 := patT_len x.2.1
  simp only [surfT, List.length_append, List.length_cons, List.length_nil]
  omega
theorem flatT_len (l : List UInt8) : (flatT l).length = l.length := by simp [flatT]
theorem shadT_len {p : EProg} (h : validP p = true) : (shadT p).length ≤ 51187 := by
  have := progT_len h
  simp only [shadT, List.length_append, List.length_cons, List.length_nil, flatT_len]
  omega
theorem texT_len {log : Int} {l : List Int} (h : l.length ≤ 256) : (texT log l).length ≤ 3084 := by
  have h1 := fmtI_len log
  have h2 := fmtL_len l
  simp only [texT, List.length_append, List.length_cons, List.length_nil]
  omega
theorem camT_len (a b c d : Int) (e : Bool) (f g : Int) : (camT a b c d e f g).length ≤ 84 := fmtL_len _
theorem tex_len {log : Int} {l : List Int} (h : validTex log l = true) : inB log 0 4 = true ∧ 1 ≤ l.length ∧ l.length ≤ 256 ∧ allIn l 0 256 = true := by
  unfold validTex at h
  simp only [Bool.and_eq_true, decide_eq_true_eq] at h
  obtain ⟨h1, h2, h3⟩ := h
  have := side_rng log
  exact ⟨h1, by omega, by omega, h3⟩
theorem sum_le_mul {l : List (List UInt8)} {B : Nat} (h : ∀ x ∈ l, x.length ≤ B) : (l.map List.length).sum ≤ l.length * B := by
  induction l with
  | nil => simp
  | cons a t ih =>
    have h1 := h a (by simp)
    have h2 := ih (fun x hx => h x (by simp [hx]))
    rw [List.map_cons, List.sum_cons, List.length_cons, Nat.succ_mul]
    omega
theorem lines_mem {s : EScene} (h : SceneIs s) : ∀ x ∈ linesOf s, x.length ≤ 60000 := by
  intro x hx
  unfold linesOf headL at hx
  simp only [List.mem_append, List.mem_cons, List.not_mem_nil, or_false, List.mem_map] at hx
  rcases hx with (((rfl | rfl | rfl) | ⟨p, hp, rfl⟩) | ⟨y, hy, rfl⟩)
  · have := camT_len s.a s.b s.c s.d s.e s.f s.g
    simp only [List.length_append, List.length_cons, List.length_nil]; omega
  · have := texT_len (log := s.log) (tex_len h.tex).2.2.1
    simp only [List.length_append, List.length_cons, List.length_nil]; omega
  · have := fmtI_len s.side
    simp only [List.length_append, List.length_cons, List.length_nil]; omega
  · obtain ⟨i, hi, rfl⟩ := List.getElem_of_mem hp
    have := shadT_len (checkOk_valid (shadTo_at h.shad hi)); omega
  · have := surfT_len y; omega
theorem lines_len {s : EScene} (h : SceneIs s) : (linesOf s).length ≤ 11 := by
  have h1 := h.np
  have h2 := h.ns
  simp only [linesOf, headL, List.length_append, List.length_cons, List.length_nil, List.length_map]
  omega
theorem lines_join {s : EScene} (h : SceneIs s) : (join (linesOf s) [10]).length ≤ 660010 := by
  have h1 := join1_len 10 (linesOf s)
  have h2 := sum_le_mul (lines_mem h)
  have h3 := lines_len h
  have : (linesOf s).length * 60000 ≤ 660000 := by omega
  omega
theorem sceneT_len (s : EScene) : (sceneT s).length ≤ 660011 := by
  unfold sceneT
  split
  · next h =>
    have := lines_join (sceneIs h)
    rw [List.length_append]
    simp only [List.length_cons, List.length_nil]; omega
  · simp
end Go.Proofs.YtjipfgadamokaaaGreatDoor

/- Vectors, more: equality, sums and products. -/
namespace Go.Proofs.YtjipfgadamokaaaGreatDoor
open Go.RowKit
set_option maxRecDepth 100000
theorem eqlV (x y z p q r : Int) (w : World) : (binOp .eql 74 (vVec x y z) (vVec p q r)).run Tryz.prog w = .ok (.bool (decide (x = p) && (decide (y = q) && decide (z = r)))) w := by
  have u3 := Tryz.underlying3
  have hS : Tryz.prog.underlying 74 = some (.struct (Tryz.prog.fieldsOf 74)) := by kernel_rfl
  have hp : Tryz.prog.stoodInHeld 74 = false := by kernel_rfl
  rw [run_eql_struct, show (10000 : Nat) = 9999 + 1 from rfl, run_equalIn_agg w 9999 74 _ _ hS hp]
  simp only [Program.fieldsOf, Tryz.underlying74]
  go_simp
  by_cases h1 : x = p <;> by_cases h2 : y = q <;> by_cases h3 : z = r <;> simp [h1, h2, h3]
set_option maxHeartbeats 2000000 in
theorem S_IsValidVec (x y z : Int) (w : World) :
    Calls Tryz.prog 106 #[vVec x y z] w fun e w' => e = .returned (.bool (validV x y z)) ∧ Below w.heap.size w w' := by
  have heq : ∀ wx : World, (binOp .eql 74 (.agg #[.int .i64 x, .int .i64 y, .int .i64 z]) (.agg #[.int .i64 (cl x), .int .i64 (cl y), .int .i64 (cl z)])).run Tryz.prog wx = .ok (.bool (validV x y z)) wx := fun wx => eqlV x y z (cl x) (cl y) (cl z) wx
  have hg : Tryz.prog.eqGuardType Tryz.prog.depth 74 = false := by kernel_rfl
  go_enter Tryz.func106, Tryz.ntmps106
  go_wp2_with fail
  go_region_held3 (fun w' => w'.cell? ⟨w.heap.size, 0, none⟩ = some (.int .i64 x) ∧ w'.cell? ⟨w.heap.size, 1, none⟩ = some (.int .i64 y) ∧ w'.cell? ⟨w.heap.size, 2, none⟩ = some (.int .i64 z))
    (first | ((try dsimp only); refine ⟨?_, ?_, ?_⟩ <;> (go_simp; done)) | go_keep)
    (first | (go_at_call 134; (with_reducible refine (S_l02V _ _ _ _).mono ?_); rintro e w' ⟨rfl, hb⟩; have hz := hb.size; (try simp at hz); have c0 := fun o => hb.cell (p := ⟨w.heap.size, o, none⟩) (by first | omega | (simp <;> omega)); have f0 := fun o => hb.frozen (p := ⟨w.heap.size, o, none⟩) (by first | omega | (simp <;> omega)); have z0 : w.heap.size < w'.heap.size := (by omega)) | fail)
  all_goals
    go_wp2
    go_ret
    exact ⟨rfl, (by repeat (first | (with_reducible exact Below.refl _ _) | (with_reducible assumption) | ((with_reducible refine Below.alloc ?_ ?_ _); rotate_left; (first | omega | (simp <;> omega))) | ((with_reducible refine Below.setCell ?_ ?_ _); rotate_left; (first | omega | (simp <;> omega))) | (with_reducible refine below_drewN ?_ _) | (with_reducible refine Below.drew ?_) | ((with_reducible refine Below.step (by assumption) ?_ ?_); rotate_left; (first | omega | (simp <;> omega)))))⟩
set_option maxHeartbeats 2000000 in
theorem I_IsValidVec (x y z : Int) (w : World) :
    Calls Tryz.prog 117 #[vVec x y z] w fun e w' => e = .returned (.bool (validV x y z)) ∧ Below w.heap.size w w' := by
  have heq : ∀ wx : World, (binOp .eql 74 (.agg #[.int .i64 x, .int .i64 y, .int .i64 z]) (.agg #[.int .i64 (cl x), .int .i64 (cl y), .int .i64 (cl z)])).run Tryz.prog wx = .ok (.bool (validV x y z)) wx := fun wx => eqlV x y z (cl x) (cl y) (cl z) wx
  have hg : Tryz.prog.eqGuardType Tryz.prog.depth 74 = false := by kernel_rfl
  go_enter Tryz.func117, Tryz.ntmps117
  go_wp2_with fail
  go_region_held3 (fun w' => w'.cell? ⟨w.heap.size, 0, none⟩ = some (.int .i64 x) ∧ w'.cell? ⟨w.heap.size, 1, none⟩ = some (.int .i64 y) ∧ w'.cell? ⟨w.heap.size, 2, none⟩ = some (.int .i64 z))
    (first | ((try dsimp only); refine ⟨?_, ?_, ?_⟩ <;> (go_simp; done)) | go_keep)
    (first | (go_at_call 139; (with_reducible refine (I_clamped _ _ _ _).mono ?_); rintro e w' ⟨rfl, hb⟩; have hz := hb.size; (try simp at hz); have c0 := fun o => hb.cell (p := ⟨w.heap.size, o, none⟩) (by first | omega | (simp <;> omega)); have f0 := fun o => hb.frozen (p := ⟨w.heap.size, o, none⟩) (by first | omega | (simp <;> omega)); have z0 : w.heap.size < w'.heap.size := (by omega)) | fail)
  all_goals
    go_wp2
    go_ret
    exact ⟨rfl, (by repeat (first | (with_reducible exact Below.refl _ _) | (with_reducible assumption) | ((with_reducible refine Below.alloc ?_ ?_ _); rotate_left; (first | omega | (simp <;> omega))) | ((with_reducible refine Below.setCell ?_ ?_ _); rotate_left; (first | omega | (simp <;> omega))) | (with_reducible refine below_drewN ?_ _) | (with_reducible refine Below.drew ?_) | ((with_reducible refine Below.step (by assumption) ?_ ?_); rotate_left; (first | omega | (simp <;> omega)))))⟩
end Go.Proofs.YtjipfgadamokaaaGreatDoor
