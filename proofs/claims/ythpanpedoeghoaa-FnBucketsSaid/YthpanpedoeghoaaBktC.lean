/- FnBuckets: contracts of what the law calls. -/
import Derived.Test.YthpanpedoeghoaaDraws
import Derived.Test.YthpanpedoeghoaaPutBI
import Derived.Test.YthpanpedoeghoaaMissI
import Derived.Test.YthpanpedoeghoaaNewFilm
import Derived.Test.YthpanpedoeghoaaFilmV
import Derived.Test.YthpanpedoeghoaaCamera
import Derived.Test.YthpanpedoeghoaaBytes
import Derived.Test.YthpanpedoeghoaaBktP
set_option linter.unusedVariables false
set_option linter.unusedSimpArgs false
set_option linter.unnecessarySimpa false
namespace Go.Proofs.Ythpanpedoeghoaa
open Go.RowKit
set_option linter.unusedVariables false
set_option maxRecDepth 100000
set_option maxHeartbeats 4000000 in
theorem S_makeCamera {c : Nat} {A : Option Addr} {l : List Int} (w : World) (hl : l.length ≤ 1048576) (h : RS w 1 A l.length c (u8s l)) :
    Calls Try.prog 4 #[.slice A l.length c] w fun e w' => (∃ (a b : Nat) (x y : Int) (f : Bool) (u v : Int), e = .returned (vCamera a b x y f u v) ∧ (2 ≤ a ∧ a ≤ 5) ∧ (2 ≤ b ∧ b ≤ 5) ∧ validCam a b x y u v = true) ∧ Below w.heap.size w w' := by
  have HR := Lib.hid h
  clear h
  have HK : Hid (Own (w.alloc (.cells #[.int .i64 0, .int .i64 0, .int .i64 0, .int .i64 0, .bool false, .int .i64 0, .int .i64 0] 24)) w.heap.size 24 [.int .i64 0, .int .i64 0, .int .i64 0, .int .i64 0, .bool false, .int .i64 0, .int .i64 0]) := Own.new _ _ _
  go_enter Try.func4, Try.ntmps4
  go_wp2_with fail
  refine (S_newCur _ hl (HR.out.alloc _)).mono ?_
  rintro e w1 ⟨g, rfl, hg, hc, hb⟩
  (try simp at hg)
  have hz1 := hb.size
  (try simp at hz1)
  have HC := Lib.hid hc
  have HK1 := Lib.hid (HK.out.step hb)
  have HB := Lib.hid (Below.trans (Below.alloc (Below.refl w.heap.size w) (Nat.le_refl _) _) (hb.mono (by simp)))
  clear hc hb
  go_wp2_with fail
  refine (S_drawCamera _ HC.out).mono ?_
  rintro e w2 ⟨a, b, x, y, e, u, v, rfl, ha, hb, hv, hc, hO⟩
  have hz2 := hO.size
  have hk2 := hO.own HK1.out (by omega) (by simp; omega)
  have q0 := hk2.cell 0
  have q1 := hk2.cell 1
  have q2 := hk2.cell 2
  have q3 := hk2.cell 3
  have q4 := hk2.cell 4
  have q5 := hk2.cell 5
  have q6 := hk2.cell 6
  have qf := hk2.frozen
  simp only [List.getElem?_cons_zero, List.getElem?_cons_succ] at q0 q1 q2 q3 q4 q5 q6
  have HO := Lib.hid (Below.trans HB.out (hO.below (by omega) (fun x hx => by simp at hx; omega)))
  clear hc hO hk2
  go_wp2
  refine bodyPost_ret (v := vCamera a b x y e u v) (by simp [results, Try.results4, go_sem, *]) rfl ?_
  exact ⟨⟨a, b, x, y, e, u, v, rfl, ha, hb, hv⟩, (by repeat (first | (with_reducible exact Below.refl _ _) | (with_reducible exact HO.out) | (with_reducible assumption) | ((with_reducible refine Below.alloc ?_ ?_ _); rotate_left; (first | omega | (simp <;> omega))) | ((with_reducible refine Below.setCell ?_ ?_ _); rotate_left; (first | omega | (simp <;> omega))) | (with_reducible refine below_drewN ?_ _) | (with_reducible refine Below.drew ?_) | ((with_reducible refine Below.step (by assumption) ?_ ?_); rotate_left; (first | omega | (simp <;> omega)))))⟩
set_option maxHeartbeats 1000000 in
theorem I_IsValidBucket {a b : Nat} {x y u v : Int} {e : Bool} {p q r s : Int} (w : World) (hv : validCam a b x y u v = true) :
    Calls Try.prog 8 #[vCamera a b x y e u v, vBucket p q r s] w fun z w' => z = .returned (.bool (insideF p q r s a b)) ∧ Below w.heap.size w w' := by
  obtain ⟨ha, hb0, _⟩ := validCam_true hv
  have HA := Lib.hid (And.intro ha hb0)
  clear ha hb0
  go_enter Try.func8, Try.ntmps8
  go_wp2_with (first | (go_at_call 14; refine (I_IsValidCamera _).mono ?_; rintro e w' ⟨rfl, hb⟩; have hz := hb.size; (try simp at hz); have c0 := fun o => hb.cell (p := ⟨w.heap.size, o, none⟩) (by first | omega | (simp <;> omega)); have f0 := fun o => hb.frozen (p := ⟨w.heap.size, o, none⟩) (by first | omega | (simp <;> omega)); have z0 : w.heap.size < w'.heap.size := (by omega); have c1 := fun o => hb.cell (p := ⟨w.heap.size + 1, o, none⟩) (by first | omega | (simp <;> omega)); have f1 := fun o => hb.frozen (p := ⟨w.heap.size + 1, o, none⟩) (by first | omega | (simp <;> omega)); have z1 : w.heap.size + 1 < w'.heap.size := (by omega)) | (go_at_call 19; refine (I_inside _ HA.out.1 HA.out.2).mono ?_; rintro e w' ⟨rfl, hb⟩; have hz := hb.size; (try simp at hz); have c0 := fun o => hb.cell (p := ⟨w.heap.size, o, none⟩) (by first | omega | (simp <;> omega)); have f0 := fun o => hb.frozen (p := ⟨w.heap.size, o, none⟩) (by first | omega | (simp <;> omega)); have z0 : w.heap.size < w'.heap.size := (by omega); have c1 := fun o => hb.cell (p := ⟨w.heap.size + 1, o, none⟩) (by first | omega | (simp <;> omega)); have f1 := fun o => hb.frozen (p := ⟨w.heap.size + 1, o, none⟩) (by first | omega | (simp <;> omega)); have z1 : w.heap.size + 1 < w'.heap.size := (by omega)) | fail)
  go_ret
  exact ⟨rfl, (by repeat (first | (with_reducible exact Below.refl _ _) | (with_reducible assumption) | ((with_reducible refine Below.alloc ?_ ?_ _); rotate_left; (first | omega | (simp <;> omega))) | ((with_reducible refine Below.setCell ?_ ?_ _); rotate_left; (first | omega | (simp <;> omega))) | (with_reducible refine below_drewN ?_ _) | (with_reducible refine Below.drew ?_) | ((with_reducible refine Below.step (by assumption) ?_ ?_); rotate_left; (first | omega | (simp <;> omega)))))⟩
end Go.Proofs.Ythpanpedoeghoaa
