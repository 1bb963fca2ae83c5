/- The program's Tokenize. -/
import Derived.Test.YtnlbojckobgjpaaGreatDoorAsM
import Derived.Laws.EntriesVeiled
set_option linter.unusedVariables false
set_option linter.unusedSimpArgs false
namespace Go.Proofs.YtnlbojckobgjpaaGreatDoor
open Go.RowKit Go.Lib
set_option maxRecDepth 100000
set_option maxHeartbeats 2000000 in
theorem I_Tokenize {src : List UInt8} (w : World) (hs : src.length ≤ 1048576) (hE : ErrT w) :
    Calls Tryz.prog 8 #[str src] w (OutToks src 74 w) := by
  have HT : Hid (∀ wx, Calls Tryz.prog 22 #[str src] wx (OutTokz src wx)) := Lib.hid (fun wx => I_tokenize wx hs)
  have HE := Lib.hid hE
  unfold OutToks
  cases ht : toksF src with
  | error o =>
    have HT2 : Hid (∀ wx, Calls Tryz.prog 22 #[str src] wx fun e w' => (∃ g, e = .returned (.tuple #[.slice none 0 0, .iface 64 (.pointer (some ⟨g, 0, none⟩))]) ∧ wx.heap.size ≤ g ∧ Own w' g 67 [.int .i64 o]) ∧ Below wx.heap.size wx w') := Lib.hid (fun wx => by have := HT.out wx; unfold OutTokz at this; rw [ht] at this; exact this)
    clear ht HT
    go_enter Tryz.func8, Tryz.ntmps8
    go_wp2_with fail
    refine (HT2.out _).mono ?_
    rintro e w1 ⟨⟨g, rfl, hg, ho⟩, hb1⟩
    have hz1 := hb1.size
    have hg2 := ho.lt
    have HB1 := Lib.hid hb1
    have HO := Lib.hid ho
    have HE1 := Lib.hid (HE.out.step hb1)
    clear hb1 ho
    go_wp2_with fail
    refine (As.hit ⟨g, 0, none⟩ ⟨w1.heap.size, 0, none⟩ (.pointer none) _ (HE1.out.step (Below.alloc (Below.refl _ _) (Nat.le_refl _) _)) (by simp) (by simp)).mono ?_
    rintro e w2 ⟨rfl, hw2⟩
    have c0 : w2.cell? ⟨w1.heap.size, 0, none⟩ = some (.pointer (some ⟨g, 0, none⟩)) := by
      rw [← hw2]
      exact ((((((Own.new w1 64 #[.pointer none]).alloc _).alloc _).alloc _).alloc _).set_ 0 (.pointer (some ⟨g, 0, none⟩))).cell 0
    have ho2 : Own w2 g 67 [.int .i64 o] := by
      rw [← hw2]
      refine Own.far ?_ (by simp; omega) _
      exact (((((HO.out.alloc _).alloc _).alloc _).alloc _).alloc _)
    have HB2 : Hid (Below w.heap.size w w2) := Lib.hid (by rw [← hw2]; exact (by repeat (first | (with_reducible exact Below.refl _ _) | (with_reducible exact HB1.out) | (with_reducible assumption) | ((with_reducible refine Below.alloc ?_ ?_ _); rotate_left; (first | omega | (simp <;> omega))) | ((with_reducible refine Below.setCell ?_ ?_ _); rotate_left; (first | omega | (simp <;> omega))) | (with_reducible refine below_drewN ?_ _) | (with_reducible refine Below.drew ?_) | ((with_reducible refine Below.step (by assumption) ?_ ?_); rotate_left; (first | omega | (simp <;> omega))))))
    have c1 : w2.cell? ⟨g, 0, none⟩ = some (.int .i64 o) := ho2.cell 0
    clear hw2 ho2
    go_wp2_with fail
    go_region
    go_wp2_with fail
    go_ret2
    exact ⟨rfl, (by repeat (first | (with_reducible exact Below.refl _ _) | (with_reducible exact HB2.out) | (with_reducible assumption) | ((with_reducible refine Below.alloc ?_ ?_ _); rotate_left; (first | omega | (simp <;> omega))) | ((with_reducible refine Below.setCell ?_ ?_ _); rotate_left; (first | omega | (simp <;> omega))) | (with_reducible refine below_drewN ?_ _) | (with_reducible refine Below.drew ?_) | ((with_reducible refine Below.step (by assumption) ?_ ?_); rotate_left; (first | omega | (simp <;> omega)))))⟩
  | ok T =>
    have HT2 : Hid (∀ wx, Calls Tryz.prog 22 #[str src] wx fun e w' => ∃ A c, e = .returned (.tuple #[.slice A T.length c, .nilIface]) ∧ Grow w' wx.heap.size 74 4 A T.length c (rTok T) ∧ Below wx.heap.size wx w') := Lib.hid (fun wx => by have := HT.out wx; unfold OutTokz at this; rw [ht] at this; exact this)
    clear ht HT
    go_enter Tryz.func8, Tryz.ntmps8
    go_wp2_with fail
    refine (HT2.out _).mono ?_
    rintro e w1 ⟨A, c, rfl, hg, hb1⟩
    have HB1 := Lib.hid hb1
    have hz1 := hb1.size
    have HG1 := Lib.hid hg
    clear hb1 hg
    go_wp2_with (first | (go_at_call 23; refine (As.nil _ _).mono ?_; rintro e w' ⟨rfl, rfl⟩) | fail)
    go_ret2
    exact ⟨_, _, rfl, (by repeat (first | (with_reducible exact HG1.out) | (with_reducible refine Grow.alloc ?_ _) | (with_reducible refine Grow.drewN ?_ _) | (with_reducible refine Grow.drew ?_) | ((with_reducible refine Grow.far ?_ ?_ _); rotate_left; (first | omega | (simp <;> omega))) | (with_reducible refine Grow.step (by assumption) ?_))), (by repeat (first | (with_reducible exact Below.refl _ _) | (with_reducible exact HB1.out) | (with_reducible assumption) | ((with_reducible refine Below.alloc ?_ ?_ _); rotate_left; (first | omega | (simp <;> omega))) | ((with_reducible refine Below.setCell ?_ ?_ _); rotate_left; (first | omega | (simp <;> omega))) | (with_reducible refine below_drewN ?_ _) | (with_reducible refine Below.drew ?_) | ((with_reducible refine Below.step (by assumption) ?_ ?_); rotate_left; (first | omega | (simp <;> omega)))))⟩
end Go.Proofs.YtnlbojckobgjpaaGreatDoor
