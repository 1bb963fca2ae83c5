/- Plain: what a parser makes of tokens. No program in sight. -/
import Derived.Test.YtnlbojckobgjpaaGreatDoorMgE
import Derived.Test.YtnlbojckobgjpaaGreatDoorMgA
set_option linter.unusedVariables false
set_option linter.unusedSimpArgs false
namespace Go.Proofs.YtnlbojckobgjpaaGreatDoor
def tk (T : List ETok) (i : Nat) : ETok := T.getD i (0, [], 0, 0)
def kd (T : List ETok) (i : Nat) : Int := (tk T i).1
def tx (T : List ETok) (i : Nat) : List UInt8 := (tk T i).2.1
def nm (T : List ETok) (i : Nat) : Int := (tk T i).2.2.1
def of_ (T : List ETok) (i : Nat) : Int := (tk T i).2.2.2
/-- The symbol that is next, or nothing. -/
def pk (T : List ETok) (i : Nat) : List UInt8 := if kd T i = 3 then tx T i else []
inductive PR where
  | ok (v : Int) (at_ : Nat) (ns : List ENode)
  | bad (o : Int)
  | out
/-- A node is put at the end; the token that completes it is the last one taken. -/
def emit (T : List ETok) (n : ENode) (a : Nat) (ns : List ENode) : PR := if ns.length = 60 then .bad (of_ T (a - 1)) else .ok ns.length a (ns ++ [n])
inductive PM where
  | bin (add : Bool)
  | loop (add : Bool) (v : Int)
  | fac
  | args (name : List UInt8) (as_ : List Int)
def opS (add : Bool) (x : List UInt8) : Int :=
  if add then (if x = [43] then 4 else if x = [45] then 5 else 0) else (if x = [42] then 6 else if x = [47] then 7 else 0)
def opd (add : Bool) : PM := if add then .bin false else .fac
/-- The parser, by fuel: mode, depth, token, nodes. -/
def prs (T : List ETok) : Nat → PM → Nat → Nat → List ENode → PR
  | 0, _, _, _, _ => .out
  | n + 1, .bin add, d, a, ns =>
    match prs T n (opd add) d a ns with
    | .ok v a1 n1 => prs T n (.loop add v) d a1 n1
    | .bad o => .bad o
    | .out => .out
  | n + 1, .loop add v, d, a, ns =>
    if opS add (pk T a) = 0 then .ok v a ns
    else match prs T n (opd add) d (a + 1) ns with
      | .ok b a1 n1 =>
        match emit T (opS add (pk T a), [], 0, [v, b]) a1 n1 with
        | .ok u a2 n2 => prs T n (.loop add u) d a2 n2
        | .bad o => .bad o
        | .out => .out
      | .bad o => .bad o
      | .out => .out
  | n + 1, .fac, d, a, ns =>
    if 64 < d then .bad (of_ T a)
    else if pk T a = [45] then
      match prs T n .fac (d + 1) (a + 1) ns with
      | .ok v a1 n1 => emit T (3, [], 0, [v]) a1 n1
      | .bad o => .bad o
      | .out => .out
    else if pk T a = [40] then
      match prs T n (.bin true) (d + 1) (a + 1) ns with
      | .ok v a1 n1 => if pk T a1 = [41] then .ok v (a1 + 1) n1 else .bad (of_ T a1)
      | .bad o => .bad o
      | .out => .out
    else if kd T a = 1 then emit T (1, [], nm T a, []) (a + 1) ns
    else if kd T a = 2 then
      if pk T (a + 1) = [40] then prs T n (.args (tx T a) []) (d + 1) (a + 2) ns
      else emit T (2, tx T a, 0, []) (a + 1) ns
    else .bad (of_ T a)
  | n + 1, .args name l, d, a, ns =>
    if l = [] ∧ pk T a = [41] then emit T (8, name, 0, []) (a + 1) ns
    else if l.length = 3 then .bad (of_ T a)
    else match prs T n (.bin true) d a ns with
      | .ok v a1 n1 =>
        if pk T a1 = [44] then prs T n (.args name (l ++ [v])) d (a1 + 1) n1
        else if pk T a1 = [41] then emit T (8, name, 0, l ++ [v]) (a1 + 1) n1
        else .bad (of_ T a1)
      | .bad o => .bad o
      | .out => .out
/-- The assignments. -/
def asg (T : List ETok) (N : Nat) : Nat → Nat → List ENode → List EAssign → Option (Except Int EProg)
  | 0, _, _, _ => none
  | n + 1, a, ns, l =>
    if kd T a = 0 then some (.ok (ns, l))
    else if kd T a ≠ 2 then some (.error (of_ T a))
    else if pk T (a + 1) ≠ [61] then some (.error (of_ T (a + 1)))
    else match prs T N (.bin true) 1 (a + 2) ns with
      | .ok v a1 n1 => if pk T a1 = [59] then asg T N n (a1 + 1) n1 (l ++ [(tx T a, v)]) else some (.error (of_ T a1))
      | .bad o => some (.error o)
      | .out => none
/-- The tokens end: the last one alone is of kind 0, and it bears no text. -/
structure TokOk (T : List ETok) : Prop where
  pos : 0 < T.length
  last : kd T (T.length - 1) = 0
  inner : ∀ i, i + 1 < T.length → kd T i ≠ 0
theorem pk_in {T : List ETok} (h : TokOk T) {i : Nat} (hi : i < T.length) (hp : pk T i ≠ []) : i + 1 < T.length := by
  rcases Nat.lt_or_ge (i + 1) T.length with h' | h'
  · exact h'
  · have e : i = T.length - 1 := by omega
    unfold pk at hp
    rw [e, h.last] at hp
    simp at hp
theorem kd_in {T : List ETok} (h : TokOk T) {i : Nat} (hi : i < T.length) (hp : kd T i ≠ 0) : i + 1 < T.length := by
  rcases Nat.lt_or_ge (i + 1) T.length with h' | h'
  · exact h'
  · have e : i = T.length - 1 := by omega
    rw [e, h.last] at hp
    exact absurd rfl hp
theorem opS_ne {add : Bool} {x : List UInt8} (h : opS add x ≠ 0) : x ≠ [] := by
  rintro rfl
  cases add <;> simp [opS] at h
theorem emit_at {T : List ETok} {n : ENode} {a a1 : Nat} {ns n1 : List ENode} {v : Int} (h : emit T n a ns = .ok v a1 n1) : a1 = a ∧ v = ns.length ∧ n1 = ns ++ [n] ∧ ns.length ≠ 60 := by
  unfold emit at h
  split at h
  · cases h
  · injection h with h1 h2 h3
    exact ⟨h2.symm, h1.symm, h3.symm, by assumption⟩
def mu : PM → Nat
  | .fac => 1
  | .bin false => 2
  | .bin true => 3
  | .loop _ _ => 4
  | .args _ _ => 4
def st : PM → Nat
  | .loop _ _ => 0
  | _ => 1
/-- The parser comes to an end, inside the tokens. -/
def PEnds (T : List ETok) (m : PM) (a : Nat) (r : PR) : Prop := r ≠ .out ∧ ∀ v a1 n1, r = .ok v a1 n1 → a + st m ≤ a1 ∧ a1 < T.length
theorem PEnds.bad {T : List ETok} {m : PM} {a : Nat} {o : Int} : PEnds T m a (.bad o) := ⟨by simp, by simp⟩
theorem PEnds.emit {T : List ETok} {m : PM} {a b : Nat} {n : ENode} {ns : List ENode} (h1 : a + st m ≤ b) (h2 : b < T.length) : PEnds T m a (emit T n b ns) := by
  refine ⟨by unfold Go.Proofs.YtnlbojckobgjpaaGreatDoor.emit; split <;> simp, fun v a1 n1 h => ?_⟩
  obtain ⟨rfl, _⟩ := emit_at h
  exact ⟨h1, h2⟩
theorem PEnds.up {T : List ETok} {m m' : PM} {a b : Nat} {r : PR} (h : PEnds T m' b r) (hb : a + st m ≤ b + st m') : PEnds T m a r := ⟨h.1, fun v a1 n1 e => by have := h.2 v a1 n1 e; omega⟩
theorem prs_ends {T : List ETok} (h : TokOk T) : ∀ (n : Nat) (m : PM) (d a : Nat) (ns : List ENode), a < T.length → mu m + 4 * (T.length - a) ≤ n → PEnds T m a (prs T n m d a ns) := by
  intro n
  induction n with
  | zero => intro m d a ns ha hn; omega
  | succ n ih =>
    intro m d a ns ha hn
    have hop : ∀ add, mu (opd add) + 1 = mu (.bin add) ∧ st (opd add) = 1 := by intro add; cases add <;> exact ⟨rfl, rfl⟩
    match m with
    | .bin add =>
      have hm := (hop add).1
      have hs := (hop add).2
      have h1 := ih (opd add) d a ns ha (by omega)
      rw [prs]
      cases hr : prs T n (opd add) d a ns with
      | out => exact absurd hr h1.1
      | bad o => exact .bad
      | ok v a1 n1 =>
        have h2 := h1.2 v a1 n1 hr
        rw [hs] at h2
        have hb : 2 ≤ mu (.bin add) := by cases add <;> simp [mu]
        have h3 := ih (.loop add v) d a1 n1 h2.2 (by show 4 + _ ≤ n; omega)
        exact h3.up (by show a + 1 ≤ a1 + 0; omega)
    | .loop add v =>
      rw [prs]
      split
      · refine ⟨by simp, fun v1 a1 n1 e => ?_⟩
        injection e with e1 e2 e3
        subst e2
        exact ⟨Nat.le_refl _, ha⟩
      · rename_i hne
        have hin := pk_in h ha (opS_ne hne)
        have hm : mu (opd add) ≤ 2 := by cases add <;> simp [opd, mu]
        have hs := (hop add).2
        have hn' : 4 + 4 * (T.length - a) ≤ n + 1 := hn
        have h1 := ih (opd add) d (a + 1) ns hin (by omega)
        cases hr : prs T n (opd add) d (a + 1) ns with
        | out => exact absurd hr h1.1
        | bad o => exact .bad
        | ok b a1 n1 =>
          have h2 := h1.2 b a1 n1 hr
          rw [hs] at h2
          show PEnds T _ a (match emit T (opS add (pk T a), [], 0, [v, b]) a1 n1 with | .ok u a2 n2 => prs T n (.loop add u) d a2 n2 | .bad o => .bad o | .out => .out)
          cases he : emit T (opS add (pk T a), [], 0, [v, b]) a1 n1 with
          | out => unfold emit at he; split at he <;> cases he
          | bad o => exact .bad
          | ok u a2 n2 =>
            obtain ⟨rfl, _⟩ := emit_at he
            have h3 := ih (.loop add u) d a2 n2 h2.2 (by show 4 + _ ≤ n; omega)
            exact h3.up (by show a + 0 ≤ a2 + 0; omega)
    | .fac =>
      have hn' : 1 + 4 * (T.length - a) ≤ n + 1 := hn
      rw [prs]
      split
      · exact .bad
      split
      · rename_i hp
        have hin := pk_in h ha (by rw [hp]; simp)
        have h1 := ih .fac (d + 1) (a + 1) ns hin (by show 1 + _ ≤ n; omega)
        cases hr : prs T n .fac (d + 1) (a + 1) ns with
        | out => exact absurd hr h1.1
        | bad o => exact .bad
        | ok v a1 n1 =>
          have h2 : a + 1 + 1 ≤ a1 ∧ a1 < T.length := h1.2 v a1 n1 hr
          exact .emit (by show a + 1 ≤ a1; omega) h2.2
      split
      · rename_i hp
        have hin := pk_in h ha (by rw [hp]; simp)
        have h1 := ih (.bin true) (d + 1) (a + 1) ns hin (by show 3 + _ ≤ n; omega)
        cases hr : prs T n (.bin true) (d + 1) (a + 1) ns with
        | out => exact absurd hr h1.1
        | bad o => exact .bad
        | ok v a1 n1 =>
          have h2 : a + 1 + 1 ≤ a1 ∧ a1 < T.length := h1.2 v a1 n1 hr
          show PEnds T _ a (if pk T a1 = [41] then .ok v (a1 + 1) n1 else .bad (of_ T a1))
          split
          · rename_i hq
            have hin2 := pk_in h h2.2 (by rw [hq]; simp)
            refine ⟨by simp, fun v1 a2 n2 e => ?_⟩
            injection e with e1 e2 e3
            subst e2
            exact ⟨by show a + 1 ≤ a1 + 1; omega, hin2⟩
          · exact .bad
      split
      · rename_i hk
        have hin := kd_in h ha (by rw [hk]; decide)
        exact .emit (Nat.le_refl _) hin
      split
      · rename_i hk
        have hin := kd_in h ha (by rw [hk]; decide)
        split
        · rename_i hp
          have hin2 := pk_in h hin (by rw [hp]; simp)
          have h1 := ih (.args (tx T a) []) (d + 1) (a + 2) ns hin2 (by show 4 + _ ≤ n; omega)
          exact h1.up (by show a + 1 ≤ a + 2 + 1; omega)
        · exact .emit (Nat.le_refl _) hin
      · exact .bad
    | .args name l =>
      have hn' : 4 + 4 * (T.length - a) ≤ n + 1 := hn
      rw [prs]
      split
      · rename_i hp
        have hin := pk_in h ha (by rw [hp.2]; simp)
        exact .emit (Nat.le_refl _) hin
      split
      · exact .bad
      · have h1 := ih (.bin true) d a ns ha (by show 3 + _ ≤ n; omega)
        cases hr : prs T n (.bin true) d a ns with
        | out => exact absurd hr h1.1
        | bad o => exact .bad
        | ok v a1 n1 =>
          have h2 : a + 1 ≤ a1 ∧ a1 < T.length := h1.2 v a1 n1 hr
          show PEnds T _ a (if pk T a1 = [44] then prs T n (.args name (l ++ [v])) d (a1 + 1) n1 else if pk T a1 = [41] then emit T (8, name, 0, l ++ [v]) (a1 + 1) n1 else .bad (of_ T a1))
          split
          · rename_i hq
            have hin2 := pk_in h h2.2 (by rw [hq]; simp)
            have h3 := ih (.args name (l ++ [v])) d (a1 + 1) n1 hin2 (by show 4 + _ ≤ n; omega)
            exact h3.up (by show a + 1 ≤ a1 + 1 + 1; omega)
          split
          · rename_i hq
            have hin2 := pk_in h h2.2 (by rw [hq]; simp)
            exact .emit (by show a + 1 ≤ a1 + 1; omega) hin2
          · exact .bad
/-- What the reference and the program parse: fuel enough for every source. -/
def fuelT (T : List ETok) : Nat := 4 * T.length + 8
theorem asg_ends {T : List ETok} (h : TokOk T) {N : Nat} (hN : fuelT T ≤ N) : ∀ (n a : Nat) (ns : List ENode) (l : List EAssign), a < T.length → T.length - a < n → ∃ r, asg T N n a ns l = some r := by
  intro n
  induction n with
  | zero => intro a ns l ha hn; omega
  | succ n ih =>
    intro a ns l ha hn
    rw [asg]
    split
    · exact ⟨_, rfl⟩
    rename_i hk
    split
    · exact ⟨_, rfl⟩
    split
    · exact ⟨_, rfl⟩
    rename_i hk2 hp
    have hin := kd_in h ha hk
    have hp2 : pk T (a + 1) = [61] := Classical.not_not.1 hp
    have hin2 := pk_in h hin (by rw [hp2]; simp)
    unfold fuelT at hN
    have h1 := prs_ends h N (.bin true) 1 (a + 2) ns hin2 (by show 3 + _ ≤ N; omega)
    cases hr : prs T N (.bin true) 1 (a + 2) ns with
    | out => exact absurd hr h1.1
    | bad o => exact ⟨_, rfl⟩
    | ok v a1 n1 =>
      have h2 : a + 2 + 1 ≤ a1 ∧ a1 < T.length := h1.2 v a1 n1 hr
      show ∃ r, (if pk T a1 = [59] then asg T N n (a1 + 1) n1 (l ++ [(tx T a, v)]) else some (.error (of_ T a1))) = some r
      split
      · rename_i hq
        exact ih _ _ _ (pk_in h h2.2 (by rw [hq]; simp)) (by omega)
      · exact ⟨_, rfl⟩
/-- What Parse answers: the program, and -1 or the offset at which it fails. -/
def parT (T : List ETok) : EProg × Int :=
  match asg T (fuelT T) (T.length + 1) 0 [] [] with
  | some (.ok p) => (p, -1)
  | some (.error o) => (([], []), o)
  | none => (([], []), 0)
def parF (src : List UInt8) : EProg × Int :=
  match toksF src with
  | .error o => (([], []), (o : Int))
  | .ok T => parT T
theorem scanTok_kind {l : List UInt8} {k : Int} {n v : Nat} (h : scanTok l = some (k, n, v)) : k = 1 ∨ k = 2 ∨ k = 3 := by
  unfold scanTok at h
  match l, h with
  | b :: l, h =>
    simp only at h
    split at h
    · obtain ⟨⟨n', v'⟩, hx, he⟩ := Option.map_eq_some_iff.1 h
      simp only [Prod.mk.injEq] at he
      exact .inl he.1.symm
    · split at h
      · split at h
        · cases h
        · simp only [Option.some.injEq, Prod.mk.injEq] at h
          exact .inr (.inl h.1.symm)
      · split at h
        · simp only [Option.some.injEq, Prod.mk.injEq] at h
          exact .inr (.inr h.1.symm)
        · cases h
theorem tokz_all {src : List UInt8} {Pt : ETok → Prop} (hs : ∀ a k m v, scanTok (src.drop a) = some (k, m, v) → Pt (k, (src.drop a).take m, (v : Int), (a : Int))) : ∀ (n a : Nat) (l r : List ETok), (∀ x ∈ l, Pt x) → tokz src n a l = .ok r → ∀ x ∈ r, Pt x := by
  intro n
  induction n with
  | zero => intro a l r hl h; injection h with h; subst h; exact hl
  | succ n ih =>
    intro a l r hl h
    rcases Nat.lt_or_ge a src.length with ha | ha
    · have hb := List.getElem?_eq_getElem ha
      cases hsp : isSp src[a] with
      | true => rw [tokz_space hb hsp] at h; exact ih _ _ _ hl h
      | false =>
        cases hk : scanTok (src.drop a) with
        | none => rw [tokz_bad hb hsp hk] at h; cases h
        | some x =>
          obtain ⟨k, m, v⟩ := x
          rw [tokz_tok hb hsp hk] at h
          refine ih _ _ _ (fun x hx => ?_) h
          rcases List.mem_append.1 hx with hx | hx
          · exact hl x hx
          · obtain rfl := List.mem_singleton.1 hx
            exact hs a k m v hk
    · rw [tokz_end ha] at h; injection h with h; subst h; exact hl
theorem toksF_ok {src : List UInt8} {T : List ETok} (h : toksF src = .ok T) : TokOk T := by
  unfold toksF at h
  split at h
  · cases h
  · cases hz : tokz src (src.length + 1) 0 [] with
    | error o => rw [hz] at h; cases h
    | ok r =>
      rw [hz] at h
      have h2 : r ++ [(0, [], 0, (src.length : Int))] = T := by injection h
      subst h2
      have hall : ∀ x ∈ r, x.1 ≠ (0 : Int) := tokz_all (Pt := fun x => x.1 ≠ (0 : Int)) (fun a k m v hk => by have := scanTok_kind hk; show k ≠ 0; omega) _ _ _ _ (by simp) hz
      refine ⟨by simp, ?_, fun i hi => ?_⟩
      · unfold kd tk; simp
      · have hi' : i < r.length := by simp at hi; omega
        have e : (r ++ [((0 : Int), ([] : List UInt8), (0 : Int), (src.length : Int))]).getD i (0, [], 0, 0) = r[i] := by
          simp [List.getD, List.getElem?_append_left hi', hi']
        unfold kd tk
        rw [e]
        exact hall _ (List.getElem_mem hi')
end Go.Proofs.YtnlbojckobgjpaaGreatDoor
