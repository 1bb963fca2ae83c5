/- The program's parser: factor. -/
import Derived.Test.YtnlbojckobgjpaaGreatDoorPriC
import Derived.Test.YtnlbojckobgjpaaGreatDoorParF
import Derived.Recover
set_option linter.unusedVariables false
set_option linter.unusedSimpArgs false
namespace Go.Proofs.YtnlbojckobgjpaaGreatDoor
open Go.RowKit Go.Lib
set_option maxRecDepth 100000
/-- factor's deferred function. -/
theorem I_factorD {g B : Nat} {d : Int} (m : FrameMode) (w : World) (h1 : w.cell? ⟨g, 0, none⟩ = some (.pointer (some ⟨B, 0, none⟩))) (h2 : w.cell? ⟨B, 2, none⟩ = some (.int .i64 d)) (h3 : w.frozen? ⟨B, 2, none⟩ = false) :
    CallsD Tryz.prog 111 #[.pointer (some ⟨g, 0, none⟩)] m w fun e m' w' => m' = m ∧ (e = .returned (.tuple #[]) ∧ w.setCell ⟨B, 2, none⟩ (.int .i64 (IntKind.i64.wrap (d - 1))) = w') := by
  go_enter_d Tryz.func111, Tryz.ntmps111
  go_wp2_with fail
  go_end0
  refine ⟨rfl, ?_⟩
  congr 2
  exact IntWalk.i64_left _
/-- A post that asks nothing of the frame at a panic. -/
def CalmD (Q : Exit → Act → World → Prop) (R : Ending → World → Prop) : Exit → Act → World → Prop
  | .panic c, a, w => a.defers = [] ∧ R (.panicked c) w
  | e, a, w => Q e a w
theorem wp_region_calm {P : Program} {id : Nat} {ops : Array Oper} {b : Bool} {Q : Exit → Act → World → Prop} {R : Ending → World → Prop} {a : Act} {w : World} (hQ : ∀ c a w, a.defers = [] → R (.panicked c) w → Q (.panic c) a w) (h : (Code.region id ops b).wp P (CalmD Q R) a w) : (Code.region id ops b).wp P Q a w :=
  Code.wp_mono (fun e a w h => by cases e <;> first | exact h | exact hQ _ _ _ h.1 h.2) h
/-- The parser inside factor. -/
def FSt (w0 : World) (B base : Nat) (TA : Option Addr) (tc : Nat) (Ts : List ETok) (AA : Option Addr) (ac : Nat) (as_ : List EAssign) (X : List Nat) (NA : Option Addr) (d : Nat) (w : World) (a : Nat) (NA' : Option Addr) (nc : Nat) (ns : List ENode) : Prop :=
  IpSt w B base TA tc Ts AA ac as_ (gOf (some ⟨w0.heap.size, 0, none⟩) ++ X) a ((d + 1 : Nat) : Int) NA' nc ns ∧ Own w w0.heap.size 59 [.pointer (some ⟨B, 0, none⟩)] ∧ Only w0.heap.size (B :: gOf NA) w0 w ∧ (∀ x, x ∈ gOf NA' → x ∈ gOf NA ∨ w0.heap.size ≤ x)
/-- Behind a panic inside factor. -/
def FD (w0 : World) (B : Nat) (NA : Option Addr) (w : World) : Prop := OwnD w B ∧ Own w w0.heap.size 59 [.pointer (some ⟨B, 0, none⟩)] ∧ Only w0.heap.size (B :: gOf NA) w0 w ∧ B < w0.heap.size
section
variable {w0 w w' : World} {B base : Nat} {TA : Option Addr} {tc : Nat} {Ts : List ETok} {AA : Option Addr} {ac : Nat} {as_ : List EAssign} {X : List Nat} {NA NA1 NA2 : Option Addr} {nc nc2 : Nat} {ns ns2 : List ENode} {a a2 d : Nat} {o : Int}
theorem FSt.start (h : IpSt w0 B base TA tc Ts AA ac as_ X a d NA nc ns) : FSt w0 B base TA tc Ts AA ac as_ X NA d ((w0.setCell ⟨B, 2, none⟩ (.int .i64 ((d : Int) + 1))).alloc (.cells #[.pointer (some ⟨B, 0, none⟩)] 59)) a NA nc ns := by
  have hB := h.cells.1
  have hz : (w0.setCell ⟨B, 2, none⟩ (.int .i64 ((d : Int) + 1))).heap.size = w0.heap.size := by simp [World.setCell]
  refine ⟨?_, ?_, ?_, fun x hx => .inl hx⟩
  · have := (h.setDp ((d + 1 : Nat) : Int)).fresh_ (.cells #[.pointer (some ⟨B, 0, none⟩)] 59)
    have hz' : (w0.setCell ⟨B, 2, none⟩ (.int .i64 ((d + 1 : Nat) : Int))).heap.size = w0.heap.size := by simp [World.setCell]
    rw [hz'] at this
    have e : ((d + 1 : Nat) : Int) = (d : Int) + 1 := by omega
    rw [e] at this ⊢
    exact this
  · exact Own.at_new hz.symm
  · exact Only.al (Only.setCell (Only.refl _ _ _) (by simp) _) (by rw [hz]; exact Nat.le_refl _) _
theorem FSt.step (h : FSt w0 B base TA tc Ts AA ac as_ X NA d w a NA1 nc ns) (hb : Below w.heap.size w w') : FSt w0 B base TA tc Ts AA ac as_ X NA d w' a NA1 nc ns :=
  ⟨h.1.step hb, h.2.1.step hb, h.2.2.1.sub (Only.of_below hb []) h.2.2.1.size (fun x hx => by cases hx), h.2.2.2⟩
theorem FSt.drew (h : FSt w0 B base TA tc Ts AA ac as_ X NA d w a NA1 nc ns) : FSt w0 B base TA tc Ts AA ac as_ X NA d w.drew a NA1 nc ns := ⟨h.1.drew, h.2.1.drew, h.2.2.1.drew, h.2.2.2⟩
theorem FSt.blt (h : FSt w0 B base TA tc Ts AA ac as_ X NA d w a NA1 nc ns) : w0.heap.size ∉ B :: gOf NA1 := by
  intro q
  rcases List.mem_cons.1 q with r | r
  · exact (h.1.2.xlt w0.heap.size (by simp [gOf])).2 r
  · exact (h.1.2.apN _ r).2.2 (by simp [gOf])
theorem FSt.go (h : FSt w0 B base TA tc Ts AA ac as_ X NA d w a NA1 nc ns) (hi : IpSt w' B base TA tc Ts AA ac as_ (gOf (some ⟨w0.heap.size, 0, none⟩) ++ X) a2 ((d + 1 : Nat) : Int) NA2 nc2 ns2) (hO : Only w.heap.size (B :: gOf NA1) w w') (hS : ∀ x, x ∈ gOf NA2 → x ∈ gOf NA1 ∨ w.heap.size ≤ x) : FSt w0 B base TA tc Ts AA ac as_ X NA d w' a2 NA2 nc2 ns2 :=
  ⟨hi, (hO.block w0.heap.size h.2.1.lt h.blt).trans h.2.1, h.2.2.1.sub hO h.2.2.1.size (fun x hx => by
    rcases List.mem_cons.1 hx with rfl | hx
    · exact .inl (by simp)
    · exact (h.2.2.2 x hx).imp (fun q => List.mem_cons_of_mem _ q) id), fun x hx => by
    rcases hS x hx with q | q
    · exact h.2.2.2 x q
    · exact .inr (Nat.le_trans h.2.2.1.size q)⟩
theorem FSt.next (h : FSt w0 B base TA tc Ts AA ac as_ X NA d w a NA1 nc ns) (hi : IpSt w' B base TA tc Ts AA ac as_ (gOf (some ⟨w0.heap.size, 0, none⟩) ++ X) a2 ((d + 1 : Nat) : Int) NA1 nc ns) (hO : Only w.heap.size [B] w w') : FSt w0 B base TA tc Ts AA ac as_ X NA d w' a2 NA1 nc ns :=
  h.go hi (hO.mono' (fun x hx => by simp at hx; simp [hx])) (fun x hx => .inl hx)
theorem FSt.bad (hB : B < w0.heap.size) (h : FSt w0 B base TA tc Ts AA ac as_ X NA d w a NA1 nc ns) (hi : OwnD w' B) (hO : Only w.heap.size (B :: gOf NA1) w w') : FD w0 B NA w' :=
  ⟨hi, (hO.block w0.heap.size h.2.1.lt h.blt).trans h.2.1, h.2.2.1.sub hO h.2.2.1.size (fun x hx => by
    rcases List.mem_cons.1 hx with rfl | hx
    · exact .inl (by simp)
    · exact (h.2.2.2 x hx).imp (fun q => List.mem_cons_of_mem _ q) id), hB⟩
theorem FSt.fd (hB : B < w0.heap.size) (h : FSt w0 B base TA tc Ts AA ac as_ X NA d w a NA1 nc ns) : FD w0 B NA w := ⟨h.1.ownD, h.2.1, h.2.2.1, hB⟩
theorem FD.step (h : FD w0 B NA w) (hb : Below w.heap.size w w') : FD w0 B NA w' := ⟨h.1.step hb, h.2.1.step hb, h.2.2.1.sub (Only.of_below hb []) h.2.2.1.size (fun x hx => by cases hx), h.2.2.2⟩
/-- What the deferred function asks of the world at the door. -/
theorem FSt.door (h : FSt w0 B base TA tc Ts AA ac as_ X NA d w a NA1 nc ns) : w.cell? ⟨w0.heap.size, 0, none⟩ = some (.pointer (some ⟨B, 0, none⟩)) ∧ w.cell? ⟨B, 2, none⟩ = some (.int .i64 ((d : Int) + 1)) ∧ w.frozen? ⟨B, 2, none⟩ = false :=
  ⟨h.2.1.cell 0, by have := h.1.cells.2.2.2.1; simpa using this, h.1.cells.2.2.2.2.2.2 2⟩
theorem FD.door (h : FD w0 B NA w) : w.cell? ⟨w0.heap.size, 0, none⟩ = some (.pointer (some ⟨B, 0, none⟩)) ∧ (∃ x : Int, w.cell? ⟨B, 2, none⟩ = some (.int .i64 x)) ∧ w.frozen? ⟨B, 2, none⟩ = false := by
  obtain ⟨⟨c0, c1, c3, c4, x, ho⟩, h2, _⟩ := h
  exact ⟨h2.cell 0, ⟨x, ho.cell 2⟩, ho.frozen 2⟩
theorem FSt.fin {v : Int} (h : FSt w0 B base TA tc Ts AA ac as_ X NA d w a NA1 nc ns) : IGo B base TA tc Ts AA ac as_ X d NA (.ok v a ns) w0 (.returned (.int .i64 v)) (w.setCell ⟨B, 2, none⟩ (.int .i64 d)) :=
  ⟨NA1, nc, rfl, (h.1.setDp d).ownX (Below.refl _ _) (fun y hy => ⟨by have := (h.1.2.xlt y (by simp [hy])).1; simpa [World.setCell] using this, .inl (by simp [hy])⟩), Only.setCell h.2.2.1 (by simp) _, h.2.2.2⟩
theorem FD.fin {x : Int} (h : FD w0 B NA w) : IGo B base TA tc Ts AA ac as_ X d NA (.bad o) w0 (.panicked (rej o)) (w.setCell ⟨B, 2, none⟩ (.int .i64 x)) := by
  obtain ⟨⟨c0, c1, c3, c4, y, ho⟩, h2, h3, hB⟩ := h
  exact ⟨rfl, ⟨c0, c1, c3, c4, x, ho.set_ 2 _⟩, Only.setCell h3 (by simp) _⟩
end
set_option maxHeartbeats 2000000 in
theorem I_fac0 {B base : Nat} {TA : Option Addr} {tc : Nat} {Ts : List ETok} {AA : Option Addr} {ac : Nat} {as_ : List EAssign} {k : Nat} (hk : TokK Ts) {d a : Nat} {X : List Nat} {NA : Option Addr} {nc : Nat} {ns : List ENode} (w : World)
    (h : IpSt w B base TA tc Ts AA ac as_ X a d NA nc ns) (ha : a < Ts.length) (hd : 64 < d + 1) (hd2 : d ≤ 64) :
    Calls Tryz.prog 102 #[.pointer (some ⟨B, 0, none⟩)] w (IGo B base TA tc Ts AA ac as_ X d NA (prs Ts (k + 1) .fac (d + 1) a ns) w) := by
  rw [prs_fac0 hd]
  have hB := h.cells.1
  have g2 := h.cells.2.2.2.1
  have gf := h.cells.2.2.2.2.2.2
  have HF := Lib.hid (FSt.start h)
  have hd' : (64 : Int) < (d : Int) + 1 := by omega
  have hw : IntKind.i64.wrap ((d : Int) + 1) = (d : Int) + 1 := IntWalk.i64_in _ (by omega)
  have hBw : ¬ B = w.heap.size := by omega
  have hBw2 : ¬ w.heap.size = B := by omega
  have HNW : Hid (∀ wx a' NA' nc' ns', FSt w B base TA tc Ts AA ac as_ X NA d wx a' NA' nc' ns' → a' < Ts.length → Calls Tryz.prog 46 #[.pointer (some ⟨B, 0, none⟩)] wx fun e w' => e = .returned (tkV Ts a') ∧ Below wx.heap.size wx w') := Lib.hid (fun wx a' NA' nc' ns' q q2 => I_now wx q.1 q2)
  clear h
  have HRJ : Hid (∀ wx, Calls Tryz.prog 48 #[.pointer (some ⟨B, 0, none⟩), tkV Ts a] wx fun e w' => e = .panicked (rej (of_ Ts a)) ∧ Below wx.heap.size wx w') := Lib.hid (fun wx => I_reject _ _ _ _ _ wx)
  generalize htk : tkV Ts a = tv at HRJ
  have HTK := Lib.hid htk
  clear htk
  generalize hof : of_ Ts a = off at *
  clear hof
  obtain ⟨u, hu⟩ : ∃ u, (w.setCell ⟨B, 2, none⟩ (.int .i64 ((d : Int) + 1))).alloc (.cells #[.pointer (some ⟨B, 0, none⟩)] 59) = u := ⟨_, rfl⟩
  have HF1 : Hid (FSt w B base TA tc Ts AA ac as_ X NA d u a NA nc ns) := Lib.hid (by rw [← hu]; exact HF.out)
  obtain ⟨q0, q2, q3⟩ := HF1.out.door
  go_enter_defers Tryz.func102, Tryz.ntmps102
  go_wp2_with fail
  clear hu
  have HFd := Lib.hid HF1.out.drew
  have HNWu := Lib.hid (HNW.out _ _ _ _ _ HFd.out ha)
  rw [HTK.out] at HNWu
  refine wp_region_calm (R := IGo B base TA tc Ts AA ac as_ X d NA (.bad off) w) (fun c a' w' h1 h2 => by show Leaves _ _ _ _ a'.defers _ _; rw [h1]; exact h2) ?_
  refine wp_region_held_drew (S := (fun w' => w'.cell? ⟨w.heap.size, 0, none⟩ = some (.pointer (some ⟨B, 0, none⟩)))) (by kernel_rfl) ?_ (fun hHeld => ?_)
  · (try dsimp only); (go_simp; done)
  (refine wpAnyH_take (i := 0) (v := ?_) rfl (by kernel_rfl) (by kernel_rfl) (by kernel_rfl) (fun _ _ _ h => h) (Or.inl ⟨by rfl, ?_⟩) (by assumption) ?_; rotate_left; focus (intro w hSw; (try dsimp only at hSw); go_simp; try with_reducible rfl)); (try simp only [List.getElem_toArray, List.getElem_cons_succ, List.getElem_cons_zero, Act.put, List.setIfInBounds_toArray, List.set_cons_zero, List.set_cons_succ])
  (refine wpAnyH_take (i := 1) (v := ?_) rfl (by kernel_rfl) (by kernel_rfl) (by kernel_rfl) (fun _ _ _ h => h) (Or.inl ⟨by rfl, ?_⟩) (by assumption) ?_; rotate_left; focus (intro w hSw; (try dsimp only at hSw); go_simp; try with_reducible rfl)); (try simp only [List.getElem_toArray, List.getElem_cons_succ, List.getElem_cons_zero, Act.put, List.setIfInBounds_toArray, List.set_cons_zero, List.set_cons_succ])
  refine wpAnyH_ready (rs := [2]) (by kernel_rfl) (by simp) ?_
  refine AllReadyH.cons rfl (fun K hK => ?_) AllReadyH.nil
  go_simp
  refine HNWu.out.mono ?_
  rintro e u1 ⟨rfl, hb1⟩
  have HF3 := Lib.hid (HFd.out.step hb1)
  obtain ⟨r0, r2, r3⟩ := HF3.out.door
  clear hb1
  (try go_wp2_with fail)
  refine hK.out _ _ r0 (fun hHeld2 => ?_)
  clear hK K hHeld
  (try simp only [List.getElem_toArray, List.getElem_cons_succ, List.getElem_cons_zero, Act.put, List.setIfInBounds_toArray, List.set_cons_zero, List.set_cons_succ])
  refine wpAnyH_ready (rs := [3]) (by kernel_rfl) (by simp) ?_
  refine AllReadyH.cons rfl (fun K hK => ?_) AllReadyH.nil
  go_simp
  refine (HRJ.out _).mono ?_
  rintro e u2 ⟨rfl, hb2⟩
  have HF4 := Lib.hid ((HF3.out.fd hB).step hb2)
  clear hb2
  exact ⟨rfl, rfl, HF4.out.1, HF4.out.2.2.1⟩
end Go.Proofs.YtnlbojckobgjpaaGreatDoor
