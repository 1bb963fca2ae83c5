/- Plain: a parsed node has at most three arguments. -/
import Derived.Test.YtnlbojckobgjpaaDoorParP
namespace Go.Proofs.YtnlbojckobgjpaaDoor
set_option linter.unusedVariables false
def Small (ns : List ENode) : Prop := ∀ x, x ∈ ns → x.2.2.2.length ≤ 3
def okM : PM → Prop
  | .args _ l => l.length ≤ 3
  | _ => True
theorem emit_small {T : List ETok} {n : ENode} {a a1 : Nat} {ns n1 : List ENode} {v : Int} (hs : Small ns) (hn : n.2.2.2.length ≤ 3) (h : emit T n a ns = .ok v a1 n1) : Small n1 := by
  obtain ⟨_, _, rfl, _⟩ := emit_at h
  intro x hx
  rcases List.mem_append.1 hx with q | q
  · exact hs x q
  · rw [List.mem_singleton.1 q]; exact hn
theorem prs_small {T : List ETok} : ∀ (n : Nat) (m : PM) (d a : Nat) (ns : List ENode), Small ns → okM m → ∀ v a1 n1, prs T n m d a ns = .ok v a1 n1 → Small n1 := by
  intro n
  induction n with
  | zero => intro m d a ns _ _ v a1 n1 h; simp [prs] at h
  | succ n ih =>
    intro m d a ns hs hm v a1 n1 h
    match m with
    | .bin add =>
      rw [prs] at h
      cases hr : prs T n (opd add) d a ns with
      | out => rw [hr] at h; cases h
      | bad o => rw [hr] at h; cases h
      | ok v2 a2 n2 =>
        rw [hr] at h
        have h2 := ih _ _ _ _ hs (by cases add <;> trivial) _ _ _ hr
        exact ih _ _ _ _ h2 (by exact trivial) _ _ _ h
    | .loop add v0 =>
      rw [prs] at h
      split at h
      · injection h with _ _ h; subst h; exact hs
      · cases hr : prs T n (opd add) d (a + 1) ns with
        | out => rw [hr] at h; cases h
        | bad o => rw [hr] at h; cases h
        | ok b a2 n2 =>
          rw [hr] at h
          have h2 := ih _ _ _ _ hs (by cases add <;> trivial) _ _ _ hr
          dsimp only at h
          cases he : emit T (opS add (pk T a), [], 0, [v0, b]) a2 n2 with
          | out => rw [he] at h; cases h
          | bad o => rw [he] at h; cases h
          | ok u a3 n3 =>
            rw [he] at h
            exact ih _ _ _ _ (emit_small h2 (by simp) he) (by exact trivial) _ _ _ h
    | .fac =>
      rw [prs] at h
      split at h
      · cases h
      split at h
      · cases hr : prs T n .fac (d + 1) (a + 1) ns with
        | out => rw [hr] at h; cases h
        | bad o => rw [hr] at h; cases h
        | ok v2 a2 n2 =>
          rw [hr] at h
          exact emit_small (ih _ _ _ _ hs (by exact trivial) _ _ _ hr) (by simp) h
      split at h
      · cases hr : prs T n (.bin true) (d + 1) (a + 1) ns with
        | out => rw [hr] at h; cases h
        | bad o => rw [hr] at h; cases h
        | ok v2 a2 n2 =>
          rw [hr] at h
          dsimp only at h
          split at h
          · injection h with _ _ h; subst h; exact ih _ _ _ _ hs (by exact trivial) _ _ _ hr
          · cases h
      split at h
      · exact emit_small hs (by simp) h
      split at h
      · split at h
        · exact ih _ _ _ _ hs (by simp [okM]) _ _ _ h
        · exact emit_small hs (by simp) h
      · cases h
    | .args name l =>
      have hl : l.length ≤ 3 := hm
      rw [prs] at h
      split at h
      · exact emit_small hs (by simp) h
      split at h
      · cases h
      · rename_i h3
        cases hr : prs T n (.bin true) d a ns with
        | out => rw [hr] at h; cases h
        | bad o => rw [hr] at h; cases h
        | ok v2 a2 n2 =>
          rw [hr] at h
          dsimp only at h
          have h2 := ih _ _ _ _ hs (by exact trivial) _ _ _ hr
          have hl2 : (l ++ [v2]).length ≤ 3 := by simp; omega
          split at h
          · exact ih _ _ _ _ h2 (by exact hl2) _ _ _ h
          split at h
          · exact emit_small h2 hl2 h
          · cases h
theorem asg_small {T : List ETok} {N : Nat} : ∀ (n a : Nat) (ns : List ENode) (l : List EAssign) (p : EProg), Small ns → asg T N n a ns l = some (.ok p) → Small p.1 := by
  intro n
  induction n with
  | zero => intro a ns l p _ h; simp [asg] at h
  | succ n ih =>
    intro a ns l p hs h
    rw [asg] at h
    split at h
    · injection h with h; injection h with h; subst h; exact hs
    split at h
    · injection h with h; cases h
    split at h
    · injection h with h; cases h
    cases hr : prs T N (.bin true) 1 (a + 2) ns with
    | out => rw [hr] at h; cases h
    | bad o => rw [hr] at h; injection h with h; cases h
    | ok v a1 n1 =>
      rw [hr] at h
      dsimp only at h
      split at h
      · exact ih _ _ _ _ (prs_small _ _ _ _ _ hs (by exact trivial) _ _ _ hr) h
      · injection h with h; cases h
theorem parF_small (src : List UInt8) : Small (parF src).1.1 := by
  unfold parF
  cases toksF src with
  | error o => intro x hx; simp at hx
  | ok T =>
    show Small (parT T).1.1
    unfold parT
    cases h : asg T (fuelT T) (T.length + 1) 0 [] [] with
    | none => intro x hx; simp at hx
    | some r =>
      cases r with
      | error o => intro x hx; simp at hx
      | ok p => exact asg_small _ _ _ _ _ (fun x hx => by simp at hx) h
end Go.Proofs.YtnlbojckobgjpaaDoor
