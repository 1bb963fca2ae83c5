/- The program's parser: expression, term, call. -/
import Derived.Test.YtnlbojckobgjpaaGreatDoorPriR
set_option linter.unusedVariables false
set_option linter.unusedSimpArgs false
namespace Go.Proofs.YtnlbojckobgjpaaGreatDoor
open Go.RowKit Go.Lib
set_option maxRecDepth 100000
theorem opS_add (x : List UInt8) : opS true x = if x = [43] then 4 else if x = [45] then 5 else 0 := by unfold opS; rw [if_pos rfl]
theorem opS_mul (x : List UInt8) : opS false x = if x = [42] then 6 else if x = [47] then 7 else 0 := by unfold opS; rw [if_neg (by decide)]
set_option maxHeartbeats 2000000 in
theorem I_bin {B base : Nat} {TA : Option Addr} {tc : Nat} {Ts : List ETok} {AA : Option Addr} {ac : Nat} {as_ : List EAssign} {n : Nat} (hk : TokK Ts) (ih : ∀ m, m < n → IPc B base TA tc Ts AA ac as_ m) (add : Bool) {d a : Nat} {X : List Nat} {NA : Option Addr} {nc : Nat} {ns : List ENode} (w : World)
    (h : IpSt w B base TA tc Ts AA ac as_ X a d NA nc ns) (ha : a < Ts.length) (hd : d ≤ 64) (hn : mu (.bin add) + 4 * (Ts.length - a) ≤ n) :
    Calls Tryz.prog (biF add) #[.pointer (some ⟨B, 0, none⟩)] w (IGo B base TA tc Ts AA ac as_ X d NA (prs Ts n (.bin add) (d + 1) a ns) w) := by
  have hmf : ∀ (fn : Fn) (first cap : Array Value) (w : World), (Instr.makeFunc fn first cap).run Tryz.prog w = .ok (.func fn first cap) w := fun _ _ _ _ => rfl
  obtain ⟨h1, h2, h3⟩ := mu_opd add
  obtain ⟨k, rfl⟩ : ∃ k, n = k + 1 := ⟨n - 1, by omega⟩
  have HOP : Hid (∀ f, f ≤ k → ∀ (a : Nat) (NA : Option Addr) (nc : Nat) (ns : List ENode) (wx : World), IpSt wx B base TA tc Ts AA ac as_ X a d NA nc ns → a < Ts.length → mu (opd add) + 4 * (Ts.length - a) ≤ f →
      Calls Tryz.prog (opF add) #[.pointer (some ⟨B, 0, none⟩)] wx (IGo B base TA tc Ts AA ac as_ X d NA (prs Ts f (opd add) (d + 1) a ns) wx)) := Lib.hid (fun f hf a NA nc ns wx hx hax hnx => (ih f (by omega)).opd add wx hx hax hd hnx)
  cases add with
  | true =>
    have HC : Hid (Calls Tryz.prog 76 #[.pointer (some ⟨B, 0, none⟩), .func (.func 77) #[.pointer (some ⟨B, 0, none⟩)] #[], .string ⟨#[43, 45]⟩, .int .i64 4, .int .i64 5] w (IGo B base TA tc Ts AA ac as_ X d NA (prs Ts (k + 1) (.bin true) (d + 1) a ns) w)) := Lib.hid (I_chain hk true 43 45 4 5 opS_add (by decide) (by decide) (by decide) w HOP h ha hn)
    clear h ih HOP
    show Calls Tryz.prog 50 _ w _
    cases hr : prs Ts (k + 1) (.bin true) (d + 1) a ns with
    | out => rw [hr] at HC; exact absurd hr (prs_ends hk.ok (k + 1) (.bin true) (d + 1) a ns ha hn).1
    | bad o =>
      rw [hr] at HC
      clear hr
      go_enter Tryz.func50, Tryz.ntmps50
      go_wp2_with fail
      (with_reducible refine HC.out.mono ?_)
      rintro e u hg
      have HG := Lib.hid hg
      obtain ⟨rfl, q1, q2⟩ := hg
      clear q1 q2
      go_wp2_with fail
      exact ⟨rfl, HG.out⟩
    | ok v a1 n1 =>
      rw [hr] at HC
      clear hr
      go_enter Tryz.func50, Tryz.ntmps50
      go_wp2_with fail
      (with_reducible refine HC.out.mono ?_)
      rintro e u hg
      have HG := Lib.hid hg
      obtain ⟨NA', nc', rfl, q1, q2, q3⟩ := hg
      clear q1 q2 q3
      go_wp2_with fail
      go_ret
      exact HG.out
  | false =>
    have HC : Hid (Calls Tryz.prog 76 #[.pointer (some ⟨B, 0, none⟩), .func (.func 102) #[.pointer (some ⟨B, 0, none⟩)] #[], .string ⟨#[42, 47]⟩, .int .i64 6, .int .i64 7] w (IGo B base TA tc Ts AA ac as_ X d NA (prs Ts (k + 1) (.bin false) (d + 1) a ns) w)) := Lib.hid (I_chain hk false 42 47 6 7 opS_mul (by decide) (by decide) (by decide) w HOP h ha hn)
    clear h ih HOP
    show Calls Tryz.prog 77 _ w _
    cases hr : prs Ts (k + 1) (.bin false) (d + 1) a ns with
    | out => exact absurd hr (prs_ends hk.ok (k + 1) (.bin false) (d + 1) a ns ha hn).1
    | bad o =>
      rw [hr] at HC
      clear hr hn
      go_enter Tryz.func77, Tryz.ntmps77
      go_wp2_with fail
      (with_reducible refine HC.out.mono ?_)
      rintro e u hg
      have HG := Lib.hid hg
      obtain ⟨rfl, q1, q2⟩ := hg
      clear q1 q2
      go_wp2_with fail
      exact ⟨rfl, HG.out⟩
    | ok v a1 n1 =>
      rw [hr] at HC
      clear hr hn
      go_enter Tryz.func77, Tryz.ntmps77
      go_wp2_with fail
      (with_reducible refine HC.out.mono ?_)
      rintro e u hg
      have HG := Lib.hid hg
      obtain ⟨NA', nc', rfl, q1, q2, q3⟩ := hg
      clear q1 q2 q3
      go_wp2_with fail
      go_ret
      exact HG.out
end Go.Proofs.YtnlbojckobgjpaaGreatDoor
