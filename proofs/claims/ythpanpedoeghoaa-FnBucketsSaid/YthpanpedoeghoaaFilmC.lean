/- Copies of films. -/
import Derived.Test.YthpanpedoeghoaaCopies
set_option linter.unusedVariables false
set_option linter.unusedSimpArgs false
set_option linter.unnecessarySimpa false
namespace Go.Proofs.Ythpanpedoeghoaa
open Go.RowKit
set_option linter.unusedVariables false
set_option maxRecDepth 20000
set_option maxHeartbeats 4000000 in
theorem I_copyFilm {W H : Int} {A B : Option Addr} {c d : Nat} {s : List Int} {t : List Bool} (w : World) (hs : s.length ≤ 1048576) (ht : t.length ≤ 1048576) (h : RS w 1 A s.length c (ints s)) (h' : RS w 1 B t.length d (bools t)) :
    Calls Try.prog 25 #[vFilm W H (.slice A s.length c) (.slice B t.length d)] w (MadeFilm (fun s0 s1 => vFilm W H s0 s1) s.length (ints s) t.length (bools t) w) := by
  have H0 := Lib.hid h
  have H1 := Lib.hid h'
  clear h h'
  have hne : ¬ w.heap.size + 1 = w.heap.size := by omega
  have hne' : ¬ w.heap.size = w.heap.size + 1 := by omega
  go_enter Try.func25, Try.ntmps25
  go_wp2_with fail
  go_region_held3 (fun w' => w'.cell? ⟨w.heap.size, 0, none⟩ = some (.int .i64 W) ∧ w'.cell? ⟨w.heap.size, 1, none⟩ = some (.int .i64 H) ∧ w'.cell? ⟨w.heap.size, 2, none⟩ = some (.slice A s.length c) ∧ w'.cell? ⟨w.heap.size, 3, none⟩ = some (.slice B t.length d))
    (first | ((try dsimp only); refine ⟨?_, ?_, ?_, ?_⟩ <;> (go_simp; done)) | go_keep)
    (first | (go_at_call 33; (with_reducible refine (G_CloneInt (l := s) _ hs (RS.step (by repeat (first | (with_reducible exact Below.refl _ _) | (with_reducible assumption) | ((with_reducible refine Below.alloc ?_ ?_ _); rotate_left; (first | omega | (simp <;> omega))) | ((with_reducible refine Below.setCell ?_ ?_ _); rotate_left; (first | omega | (simp <;> omega))) | (with_reducible refine below_drewN ?_ _) | (with_reducible refine Below.drew ?_) | ((with_reducible refine Below.step (by assumption) ?_ ?_); rotate_left; (first | omega | (simp <;> omega))))) H0.out)).mono ?_); rintro e x1 ⟨P1, k1, rfl, o1, ge1, hb1⟩; have hz1 := hb1.size; (try simp at hz1); have cc := (bcell hb1).1; have ff := (bcell hb1).2; have za : w.heap.size < x1.heap.size := (by omega); have zb : w.heap.size + 1 < x1.heap.size := (by omega)) | (go_at_call 34; (with_reducible refine (G_CloneBool (l := t) _ ht (RS.step (by repeat (first | (with_reducible exact Below.refl _ _) | (with_reducible assumption) | ((with_reducible refine Below.alloc ?_ ?_ _); rotate_left; (first | omega | (simp <;> omega))) | ((with_reducible refine Below.setCell ?_ ?_ _); rotate_left; (first | omega | (simp <;> omega))) | (with_reducible refine below_drewN ?_ _) | (with_reducible refine Below.drew ?_) | ((with_reducible refine Below.step (by assumption) ?_ ?_); rotate_left; (first | omega | (simp <;> omega))))) H1.out)).mono ?_); rintro e x2 ⟨P2, k2, rfl, o2, ge2, hb2⟩; have hz2 := hb2.size; (try simp at hz2); have cc2 := (bcell hb2).1; have ff2 := (bcell hb2).2; have za : w.heap.size < x2.heap.size := (by omega); have zb : w.heap.size + 1 < x2.heap.size := (by omega)))
  have lt1 := OwnS.lt o1
  have tr1 := OwnS.step hb2 o1
  go_wp2
  refine bodyPost_ret (v := vFilm W H (.slice P1 s.length k1) (.slice P2 t.length k2)) (by simp [results, Try.results25, go_sem, *]) rfl ⟨P1, k1, P2, k2, rfl, (by repeat (first | (with_reducible exact tr1) | ((with_reducible refine OwnS.far ?_ (fun x hx => ?_) _); rotate_left; (have q := ge1 x hx; (try simp at q); first | omega | (simp <;> omega))))), (by repeat (first | (with_reducible exact o2) | ((with_reducible refine OwnS.far ?_ (fun x hx => ?_) _); rotate_left; (have q := ge2 x hx; (try simp at q); first | omega | (simp <;> omega))))), (fun x hx => by have := ge1 x hx; simp at this; omega), (fun x hx => by have := ge2 x hx; (try simp at this); omega), (fun x hx hy => by have h1 := lt1 x hx; have h2 := ge2 x hy; (try simp at h2); omega), (by repeat (first | (with_reducible exact Below.refl _ _) | (with_reducible assumption) | ((with_reducible refine Below.alloc ?_ ?_ _); rotate_left; (first | omega | (simp <;> omega))) | ((with_reducible refine Below.setCell ?_ ?_ _); rotate_left; (first | omega | (simp <;> omega))) | (with_reducible refine below_drewN ?_ _) | (with_reducible refine Below.drew ?_) | ((with_reducible refine Below.step (by assumption) ?_ ?_); rotate_left; (first | omega | (simp <;> omega)))))⟩
end Go.Proofs.Ythpanpedoeghoaa
