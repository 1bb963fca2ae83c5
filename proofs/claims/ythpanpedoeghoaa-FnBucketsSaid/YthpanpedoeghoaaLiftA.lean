/- A step of the model's draws its answers from the tape one behind the other, and looks at the tape and at the count of draws in no other way: what an operation yields in a world whose next answers are the same is the same. -/
import Derived.Conc.Beside
set_option linter.unnecessarySimpa false
set_option linter.unusedVariables false
set_option linter.unusedSimpArgs false
namespace Go.Proofs.Ythpanpedoeghoaa.Lift
open Go.Conc

/-- The world with another tape and another count of draws. -/
def tw (w : World) (T : Nat → Question → Nat) (d : Nat) : World := { w with tape := T, drawn := d }
@[simp] theorem tw_heap (w : World) (T : Nat → Question → Nat) (d : Nat) : (tw w T d).heap = w.heap := rfl
@[simp] theorem tw_tape (w : World) (T : Nat → Question → Nat) (d : Nat) : (tw w T d).tape = T := rfl
@[simp] theorem tw_drawn (w : World) (T : Nat → Question → Nat) (d : Nat) : (tw w T d).drawn = d := rfl
@[simp] theorem tw_os (w : World) (T : Nat → Question → Nat) (d : Nat) : (tw w T d).os = w.os := rfl
@[simp] theorem tw_output (w : World) (T : Nat → Question → Nat) (d : Nat) : (tw w T d).output = w.output := rfl
@[simp] theorem tw_tw (w : World) (T T' : Nat → Question → Nat) (d d' : Nat) : tw (tw w T d) T' d' = tw w T' d' := rfl
theorem tw_self (w : World) : tw w w.tape w.drawn = w := rfl
theorem tw_at (w : World) (d : Nat) : w.at d = tw w w.tape d := rfl

/-- The next k answers are w's. -/
def Agree (w : World) (T : Nat → Question → Nat) (d k : Nat) : Prop := ∀ i, i < k → T (d + i) = w.tape (w.drawn + i)
theorem Agree.self (w : World) (k : Nat) : Agree w w.tape w.drawn k := fun _ _ => rfl
theorem Agree.le {w : World} {T : Nat → Question → Nat} {d k k' : Nat} (h : Agree w T d k) (hk : k' ≤ k) : Agree w T d k' := fun i hi => h i (by omega)
theorem Agree.left {w : World} {T : Nat → Question → Nat} {d k k' : Nat} (h : Agree w T d (k + k')) : Agree w T d k := h.le (by omega)
theorem Agree.right {w w' : World} {T : Nat → Question → Nat} {d k k' : Nat} (h : Agree w T d (k + k')) (ht : w'.tape = w.tape) (hd : w'.drawn = w.drawn + k) : Agree w' T (d + k) k' := fun i hi => by
  rw [ht, hd, Nat.add_assoc, Nat.add_assoc]; exact h (k + i) (by omega)

end Go.Proofs.Ythpanpedoeghoaa.Lift
namespace Go
def Result.world {α : Type} : Result α → World
  | .ok _ w | .halt _ w => w
def Result.tw {α : Type} (r : Result α) (T : Nat → Question → Nat) (d : Nat) : Result α :=
  match r with
  | .ok a w => .ok a (Go.Proofs.Ythpanpedoeghoaa.Lift.tw w T d)
  | .halt h w => .halt h (Go.Proofs.Ythpanpedoeghoaa.Lift.tw w T d)
end Go
namespace Go.Proofs.Ythpanpedoeghoaa.Lift
open Go.Conc

section
variable {P : Program}

theorem cell_tw (w : World) (T : Nat → Question → Nat) (d : Nat) (a : Addr) : (tw w T d).cell? a = w.cell? a := rfl
theorem frozen_tw (w : World) (T : Nat → Question → Nat) (d : Nat) (a : Addr) : (tw w T d).frozen? a = w.frozen? a := rfl
theorem shape_tw (w : World) (T : Nat → Question → Nat) (d : Nat) (r : Nat) : (tw w T d).shape? r = w.shape? r := rfl
theorem setCell_tw (w : World) (T : Nat → Question → Nat) (d : Nat) (a : Addr) (v : Value) : (tw w T d).setCell a v = tw (w.setCell a v) T d := rfl
theorem freeze_tw (w : World) (T : Nat → Question → Nat) (d : Nat) (a : Addr) (n : Nat) : (tw w T d).freeze a n = tw (w.freeze a n) T d := by
  unfold World.freeze
  split <;> rfl
theorem noCell_tw (w : World) (T : Nat → Question → Nat) (d : Nat) (a : Addr) (s : String) : (tw w T d).noCell a s = w.noCell a s := rfl
theorem seen_tw (w : World) (T : Nat → Question → Nat) (d : Nat) (x : Addr) (u : TypeId) (k : Addr) (b : Bool) : (tw w T d).seen P x u k b = w.seen P x u k b := rfl
theorem viewLoad_tw (w : World) (T : Nat → Question → Nat) (d : Nat) (x : Addr) (u : TypeId) (k : Addr) (b : Bool) : (tw w T d).viewLoad P x u k b = w.viewLoad P x u k b := rfl
theorem farLoad_tw (w : World) (T : Nat → Question → Nat) (d : Nat) (a : Addr) (b : Bool) : (tw w T d).farLoad P a b = w.farLoad P a b := rfl

def mapW (T : Nat → Question → Nat) (d : Nat) {ε : Type} : Except ε (World × List Addr) → Except ε (World × List Addr)
  | .ok (w, l) => .ok (tw w T d, l)
  | .error e => .error e

theorem viewStore_tw (w : World) (T : Nat → Question → Nat) (d : Nat) (x : Addr) (u : TypeId) (k : Addr) (v : Value) (b : Bool) : (tw w T d).viewStore P x u k v b = mapW T d (w.viewStore P x u k v b) := by
  unfold World.viewStore
  simp only [seen_tw, tw_heap]
  cases h : tight P P.depth u <;> simp only [Bool.not_true, Bool.not_false, Bool.false_eq_true, if_false, if_true] 
  · rfl
  · cases w.seen P x u k b with
    | error e => rfl
    | ok q =>
      obtain ⟨c, e, frozen, first, like, cells⟩ := q
      simp only [bind, Except.bind, pure, Except.pure]
      cases v.bytes? with
      | none => rfl
      | some bs =>
        simp only
        by_cases h1 : some bs.length ≠ like.bytes?.map (·.length)
        · simp only [h1, if_true, not_false_eq_true, ne_eq]; rfl
        · simp only [h1, if_false, ne_eq]
          split <;> rfl

theorem viewStore_world {w w' : World} {x : Addr} {u : TypeId} {k : Addr} {v : Value} {b : Bool} {l : List Addr} (h : w.viewStore P x u k v b = .ok (w', l)) : w'.tape = w.tape ∧ w'.drawn = w.drawn := by
  have e := viewStore_tw (P := P) w w.tape w.drawn x u k v b
  rw [tw_self, h] at e
  simp only [mapW, Except.ok.injEq, Prod.mk.injEq, and_true] at e
  rw [e]; exact ⟨rfl, rfl⟩

theorem farStore_tw (w : World) (T : Nat → Question → Nat) (d : Nat) (a : Addr) (v : Value) (b : Bool) : (tw w T d).farStore P a v b = mapW T d (w.farStore P a v b) := by
  unfold World.farStore
  simp only [tw_heap, viewStore_tw, noCell_tw]
  split
  · rename_i at_ u _
    cases w.viewStore P at_ u a v b with
    | ok r => rfl
    | error e => rfl
  · rfl

theorem farStore_world {w w' : World} {a : Addr} {v : Value} {b : Bool} {l : List Addr} (h : w.farStore P a v b = .ok (w', l)) : w'.tape = w.tape ∧ w'.drawn = w.drawn := by
  have e := farStore_tw (P := P) w w.tape w.drawn a v b
  rw [tw_self, h] at e
  simp only [mapW, Except.ok.injEq, Prod.mk.injEq, and_true] at e
  rw [e]; exact ⟨rfl, rfl⟩

theorem ask_loc {α : Type} : ∀ (a : Ask α) (w : World), ∃ k, (w.ask a).2 = { w with drawn := w.drawn + k } ∧ ∀ T d, Agree w T d k → (tw w T d).ask a = ((w.ask a).1, tw w T (d + k)) := by
  intro a
  induction a with
  | done a => exact fun w => ⟨0, rfl, fun T d _ => rfl⟩
  | ask what range k ih =>
    intro w
    obtain ⟨q, hq⟩ : ∃ q : Question, ∀ w : World, w.ask (.ask what range k) = if q.forced then w.ask (k 0) else World.ask { w with drawn := w.drawn + 1 } (k (q.cut (w.tape w.drawn q))) := ⟨_, fun w => rfl⟩
    simp only [hq]
    by_cases hf : q.forced = true
    · simp only [hf, if_true]
      exact ih 0 w
    · simp only [hf, Bool.false_eq_true, if_false]
      obtain ⟨n, h1, h2⟩ := ih (q.cut (w.tape w.drawn q)) { w with drawn := w.drawn + 1 }
      refine ⟨1 + n, ?_, fun T d hA => ?_⟩
      · rw [h1, ← Nat.add_assoc]
      · have e0 : T d = w.tape w.drawn := by simpa using hA 0 (by omega)
        have := h2 T (d + 1) (hA.right (w' := { w with drawn := w.drawn + 1 }) rfl rfl)
        simp only [tw_tape, tw_drawn, e0]
        rw [Nat.add_assoc] at this
        exact this

theorem sys_loc (c : Sys) (w : World) (hb : (w.sys c).1 ≠ .wouldBlock) : ∃ k, (w.sys c).2.drawn = w.drawn + k ∧ (w.sys c).2.tape = w.tape ∧ ∀ T d, Agree w T d k → (tw w T d).sys c = ((w.sys c).1, tw (w.sys c).2 T (d + k)) := by
  obtain ⟨k, h1, h2⟩ := ask_loc (Kernel.perform c w.os) w
  unfold World.sys at hb ⊢
  generalize hr : w.ask (Kernel.perform c w.os) = r at h1 h2 hb
  obtain ⟨⟨ret, os⟩, w2⟩ := r
  simp only at h1 h2
  subst h1
  cases ret with
  | wouldBlock => exact absurd rfl hb
  | _ =>
    refine ⟨k, rfl, rfl, fun T d hA => ?_⟩
    simp only [tw_os, h2 T d hA]
    rfl

variable (P) in
/-- The operation asks nothing of the world outside that would wait, and says no word but those that 'ok' lets by; what it yields is as Q says. -/
def Mild (ok : Mark → Prop) {α : Type} (Q : α → Prop) : Sem α → Prop
  | .pure a => Q a
  | .load _ _ k => ∀ v, Mild ok Q (k v)
  | .store _ _ _ k => Mild ok Q k
  | .new _ k => ∀ r, Mild ok Q (k r)
  | .shape _ k => ∀ s, Mild ok Q (k s)
  | .freeze _ _ k => Mild ok Q k
  | .frozen _ k => ∀ b, Mild ok Q (k b)
  | .getObj _ k => ∀ o, Mild ok Q (k o)
  | .setObj _ _ k => Mild ok Q k
  | .choose _ k => ∀ n, Mild ok Q (k n)
  | .sys c k => (∀ w : World, (w.sys c).1 ≠ .wouldBlock) ∧ ∀ r, Mild ok Q (k r)
  | .program k => Mild ok Q (k P)
  | .mark m k => ok m ∧ Mild ok Q k
  | .halt _ => True

theorem Mild.bind' {ok : Mark → Prop} {α β : Type} {Q : α → Prop} {R : β → Prop} {s : Sem α} {f : α → Sem β} (h : Mild P ok Q s) (hf : ∀ a, Q a → Mild P ok R (f a)) : Mild P ok R (s.bind f) := by
  induction s with
  | pure a => exact hf a h
  | load _ _ k ih => exact fun v => ih v (h v)
  | store _ _ _ k ih => exact ih h
  | new _ k ih => exact fun v => ih v (h v)
  | shape _ k ih => exact fun v => ih v (h v)
  | freeze _ _ k ih => exact ih h
  | frozen _ k ih => exact fun v => ih v (h v)
  | getObj _ k ih => exact fun v => ih v (h v)
  | setObj _ _ k ih => exact ih h
  | choose _ k ih => exact fun v => ih v (h v)
  | sys c k ih => exact ⟨h.1, fun v => ih v (h.2 v)⟩
  | program k ih => exact ih P h
  | mark m k ih => exact ⟨h.1, ih h.2⟩
  | halt _ => trivial
theorem Mild.bind {ok : Mark → Prop} {α β : Type} {Q : α → Prop} {R : β → Prop} {s : Sem α} {f : α → Sem β} (h : Mild P ok Q s) (hf : ∀ a, Q a → Mild P ok R (f a)) : Mild P ok R (s >>= f) := Mild.bind' h hf
theorem Mild.mono {ok : Mark → Prop} {α : Type} {Q R : α → Prop} {s : Sem α} (h : Mild P ok Q s) (hQ : ∀ a, Q a → R a) : Mild P ok R s := by
  induction s with
  | pure a => exact hQ a h
  | load _ _ k ih => exact fun v => ih v (h v)
  | store _ _ _ k ih => exact ih h
  | new _ k ih => exact fun v => ih v (h v)
  | shape _ k ih => exact fun v => ih v (h v)
  | freeze _ _ k ih => exact ih h
  | frozen _ k ih => exact fun v => ih v (h v)
  | getObj _ k ih => exact fun v => ih v (h v)
  | setObj _ _ k ih => exact ih h
  | choose _ k ih => exact fun v => ih v (h v)
  | sys c k ih => exact ⟨h.1, fun v => ih v (h.2 v)⟩
  | program k ih => exact ih P h
  | mark m k ih => exact ⟨h.1, ih h.2⟩
  | halt _ => trivial
theorem mild_pure {ok : Mark → Prop} {α : Type} {Q : α → Prop} {a : α} (h : Q a) : Mild P ok Q (pure a : Sem α) := h

/-- An entry that bears no word but those. -/
def EvOk (ok : Mark → Prop) (e : Event) : Prop := ∀ m, e.loc = .mark m → ok m

theorem evOk_push {ok : Mark → Prop} {es es' : Array Event} {e : Event} (he : EvOk ok e) (h : ∀ x ∈ es', x ∈ es.push e ∨ EvOk ok x) : ∀ x ∈ es', x ∈ es ∨ EvOk ok x := fun x hx => by
  rcases h x hx with h | h
  · rcases Array.mem_push.1 h with h | rfl
    · exact .inl h
    · exact .inr he
  · exact .inr h
theorem evOk_app {ok : Mark → Prop} {es es' ys : Array Event} (he : ∀ y ∈ ys, EvOk ok y) (h : ∀ x ∈ es', x ∈ es ++ ys ∨ EvOk ok x) : ∀ x ∈ es', x ∈ es ∨ EvOk ok x := fun x hx => by
  rcases h x hx with h | h
  · rcases Array.mem_append.1 h with h | h
    · exact .inl h
    · exact .inr (he x h)
  · exact .inr h

/-- What is said of an operation's run. -/
structure Run1 {α : Type} (P : Program) (ok : Mark → Prop) (Q : α → Prop) (s : Sem α) (w : World) (es : Array Event) (k : Nat) : Prop where
  drawn : (s.runT P w es).1.world.drawn = w.drawn + k
  tape : (s.runT P w es).1.world.tape = w.tape
  same : ∀ T d, Agree w T d k → s.runT P (tw w T d) es = ((s.runT P w es).1.tw T (d + k), (s.runT P w es).2)
  evs : ∀ e ∈ (s.runT P w es).2, e ∈ es ∨ EvOk ok e
  val : ∀ a w', (s.runT P w es).1 = .ok a w' → Q a

open Sem in
theorem runT_loc {ok : Mark → Prop} {α : Type} {Q : α → Prop} (s : Sem α) (h : Mild P ok Q s) : ∀ (w : World) (es : Array Event), ∃ k, Run1 P ok Q s w es k := by
  induction s with
  | pure a => exact fun w es => ⟨0, rfl, rfl, fun T d _ => rfl, fun e he => .inl he, fun b w' e => by cases e; exact h⟩
  | halt hh => exact fun w es => ⟨0, rfl, rfl, fun T d _ => rfl, fun e he => .inl he, fun _ _ e => by cases e⟩
  | load m a kk ih =>
    intro w es
    cases hc : w.cell? a with
    | some v =>
      obtain ⟨k, h1, h2, h3, h4, h5⟩ := ih v (h v) w (es.push ⟨.cell a, false, m == .atomic⟩)
      refine ⟨k, ?_, ?_, fun T d hA => ?_, ?_, ?_⟩ <;> simp only [Sem.runT, cell_tw, hc]
      · exact h1
      · exact h2
      · exact h3 T d hA
      · exact evOk_push (by intro m hm; cases hm) h4
      · exact h5
    | none =>
      cases hf : w.farLoad P a (m == .atomic) with
      | error e => refine ⟨0, ?_, ?_, fun T d hA => ?_, ?_, ?_⟩ <;> simp only [Sem.runT, cell_tw, farLoad_tw, hc, hf] <;> first | rfl | exact fun e he => .inl he | exact fun _ _ e => by cases e
      | ok q =>
        obtain ⟨v, l⟩ := q
        obtain ⟨k, h1, h2, h3, h4, h5⟩ := ih v (h v) w (es ++ l.toArray.map (⟨.cell ·, false, m == .atomic⟩))
        refine ⟨k, ?_, ?_, fun T d hA => ?_, ?_, ?_⟩ <;> simp only [Sem.runT, cell_tw, farLoad_tw, hc, hf]
        · exact h1
        · exact h2
        · exact h3 T d hA
        · refine evOk_app ?_ h4
          intro y hy
          obtain ⟨x, _, rfl⟩ := Array.mem_map.1 hy
          intro m hm; cases hm
        · exact h5
  | store m a v kk ih =>
    intro w es
    by_cases hv : (∃ l, v = .agg l) ∨ ∃ l, v = .tuple l
    · rcases hv with ⟨l, rfl⟩ | ⟨l, rfl⟩
      · exact ⟨0, rfl, rfl, fun T d _ => rfl, fun e he => .inl he, fun _ _ e => by cases e⟩
      · exact ⟨0, rfl, rfl, fun T d _ => rfl, fun e he => .inl he, fun _ _ e => by cases e⟩
    · have hr : ∀ w es, Sem.runT P (.store m a v kk) w es = (match w.cell? a with
        | some _ =>
          if w.frozen? a then (.halt (.unsupported (.unsafePointer "a write to bytes that a string shares")) w, es)
          else kk.runT P (w.setCell a v) (es.push ⟨.cell a, true, m == .atomic⟩)
        | none => match w.farStore P a v (m == .atomic) with
          | .ok (w, touched) => kk.runT P w (es ++ touched.toArray.map (⟨.cell ·, true, m == .atomic⟩))
          | .error h => (.halt h w, es)) := by
        intro w es
        cases v <;> first | rfl | exact absurd (.inl ⟨_, rfl⟩) hv | exact absurd (.inr ⟨_, rfl⟩) hv
      cases hc : w.cell? a with
      | some _ =>
        by_cases hfz : w.frozen? a = true
        · refine ⟨0, ?_, ?_, fun T d hA => ?_, ?_, ?_⟩ <;> simp only [hr, cell_tw, frozen_tw, hc, hfz, if_true] <;> first | rfl | exact fun e he => .inl he | exact fun _ _ e => by cases e
        · obtain ⟨k, h1, h2, h3, h4, h5⟩ := ih h (w.setCell a v) (es.push ⟨.cell a, true, m == .atomic⟩)
          refine ⟨k, ?_, ?_, fun T d hA => ?_, ?_, ?_⟩ <;> simp only [hr, cell_tw, frozen_tw, hc, hfz, if_false, setCell_tw, Bool.false_eq_true]
          · exact h1
          · exact h2
          · exact h3 T d hA
          · exact evOk_push (by intro m hm; cases hm) h4
          · exact h5
      | none =>
        cases hf : w.farStore P a v (m == .atomic) with
        | error e => refine ⟨0, ?_, ?_, fun T d hA => ?_, ?_, ?_⟩ <;> simp only [hr, cell_tw, farStore_tw, hc, hf, mapW] <;> first | rfl | exact fun e he => .inl he | exact fun _ _ e => by cases e
        | ok q =>
          obtain ⟨w', l⟩ := q
          obtain ⟨ht, hd⟩ := farStore_world hf
          obtain ⟨k, h1, h2, h3, h4, h5⟩ := ih h w' (es ++ l.toArray.map (⟨.cell ·, true, m == .atomic⟩))
          refine ⟨k, ?_, ?_, fun T d hA => ?_, ?_, ?_⟩ <;> simp only [hr, cell_tw, farStore_tw, hc, hf, mapW]
          · rw [h1, hd]
          · rw [h2, ht]
          · exact h3 T d (by intro i hi; rw [ht, hd]; exact hA i hi)
          · refine evOk_app ?_ h4
            intro y hy
            obtain ⟨x, _, rfl⟩ := Array.mem_map.1 hy
            intro m hm; cases hm
          · exact h5
  | new o kk ih =>
    intro w es
    obtain ⟨k, h1, h2, h3, h4, h5⟩ := ih w.heap.size (h _) { w with heap := w.heap.push o } es
    exact ⟨k, h1, h2, fun T d hA => h3 T d hA, h4, h5⟩
  | shape r kk ih =>
    intro w es
    obtain ⟨k, h1, h2, h3, h4, h5⟩ := ih (w.shape? r) (h _) w es
    exact ⟨k, h1, h2, fun T d hA => h3 T d hA, h4, h5⟩
  | freeze a n kk ih =>
    intro w es
    obtain ⟨k, h1, h2, h3, h4, h5⟩ := ih h (w.freeze a n) es
    have hw : (w.freeze a n).drawn = w.drawn ∧ (w.freeze a n).tape = w.tape := by unfold World.freeze; split <;> exact ⟨rfl, rfl⟩
    refine ⟨k, ?_, ?_, fun T d hA => ?_, ?_, ?_⟩ <;> simp only [Sem.runT, freeze_tw]
    · rw [h1, hw.1]
    · rw [h2, hw.2]
    · exact h3 T d (by intro i hi; rw [hw.1, hw.2]; exact hA i hi)
    · exact h4
    · exact h5
  | frozen a kk ih =>
    intro w es
    obtain ⟨k, h1, h2, h3, h4, h5⟩ := ih (w.frozen? a) (h _) w es
    exact ⟨k, h1, h2, fun T d hA => h3 T d hA, h4, h5⟩
  | getObj r kk ih =>
    intro w es
    cases hg : w.heap[r]? with
    | none => refine ⟨0, ?_, ?_, fun T d hA => ?_, ?_, ?_⟩ <;> simp only [Sem.runT, tw_heap, hg] <;> first | rfl | exact fun e he => .inl he | exact fun _ _ e => by cases e
    | some o =>
      by_cases ho : ∃ c e f, o = .cells c e f
      · obtain ⟨c, e, f, rfl⟩ := ho
        refine ⟨0, ?_, ?_, fun T d hA => ?_, ?_, ?_⟩ <;> simp only [Sem.runT, tw_heap, hg] <;> first | rfl | exact fun e he => .inl he | exact fun _ _ e => by cases e
      · have hr : ∀ w es, w.heap[r]? = some o → Sem.runT P (.getObj r kk) w es = (kk o).runT P w (es.push ⟨.obj r, false, o.isChan⟩) := by
          intro w es hw
          cases o <;> first | (simp only [Sem.runT, hw]; done) | exact absurd ⟨_, _, _, rfl⟩ ho
        obtain ⟨k, h1, h2, h3, h4, h5⟩ := ih o (h _) w (es.push ⟨.obj r, false, o.isChan⟩)
        refine ⟨k, ?_, ?_, fun T d hA => ?_, ?_, ?_⟩
        · rw [hr w es hg]; exact h1
        · rw [hr w es hg]; exact h2
        · rw [hr w es hg, hr (tw w T d) es hg]; exact h3 T d hA
        · rw [hr w es hg]; exact evOk_push (by intro m hm; cases hm) h4
        · rw [hr w es hg]; exact h5
  | setObj r o kk ih =>
    intro w es
    cases hg : w.heap[r]? with
    | none => refine ⟨0, ?_, ?_, fun T d hA => ?_, ?_, ?_⟩ <;> simp only [Sem.runT, tw_heap, hg] <;> first | rfl | exact fun e he => .inl he | exact fun _ _ e => by cases e
    | some o' =>
      by_cases ho : ∃ c e f, o' = .cells c e f
      · obtain ⟨c, e, f, rfl⟩ := ho
        refine ⟨0, ?_, ?_, fun T d hA => ?_, ?_, ?_⟩ <;> simp only [Sem.runT, tw_heap, hg] <;> first | rfl | exact fun e he => .inl he | exact fun _ _ e => by cases e
      · have hr : ∀ w es, w.heap[r]? = some o' → Sem.runT P (.setObj r o kk) w es = kk.runT P { w with heap := w.heap.setIfInBounds r o } (es.push ⟨.obj r, true, o.isChan⟩) := by
          intro w es hw
          cases o' <;> first | (simp only [Sem.runT, hw]; done) | exact absurd ⟨_, _, _, rfl⟩ ho
        obtain ⟨k, h1, h2, h3, h4, h5⟩ := ih h { w with heap := w.heap.setIfInBounds r o } (es.push ⟨.obj r, true, o.isChan⟩)
        refine ⟨k, ?_, ?_, fun T d hA => ?_, ?_, ?_⟩
        · rw [hr w es hg]; exact h1
        · rw [hr w es hg]; exact h2
        · rw [hr w es hg, hr (tw w T d) es hg]; exact h3 T d hA
        · rw [hr w es hg]; exact evOk_push (by intro m hm; cases hm) h4
        · rw [hr w es hg]; exact h5
  | choose q kk ih =>
    intro w es
    by_cases hf : q.forced = true
    · obtain ⟨k, h1, h2, h3, h4, h5⟩ := ih 0 (h _) w es
      refine ⟨k, ?_, ?_, fun T d hA => ?_, ?_, ?_⟩ <;> simp only [Sem.runT, hf, if_true]
      · exact h1
      · exact h2
      · exact h3 T d hA
      · exact h4
      · exact h5
    · obtain ⟨k, h1, h2, h3, h4, h5⟩ := ih (q.cut (w.tape w.drawn q)) (h _) { w with drawn := w.drawn + 1 } es
      refine ⟨1 + k, ?_, ?_, fun T d hA => ?_, ?_, ?_⟩ <;> simp only [Sem.runT, hf, Bool.false_eq_true, if_false]
      · rw [h1, ← Nat.add_assoc]
      · exact h2
      · have e0 : T d = w.tape w.drawn := by simpa using hA 0 (by omega)
        have := h3 T (d + 1) (hA.right (w' := { w with drawn := w.drawn + 1 }) rfl rfl)
        simp only [tw_tape, tw_drawn, e0]
        rw [Nat.add_assoc] at this
        exact this
      · exact h4
      · exact h5
  | sys c kk ih =>
    intro w es
    obtain ⟨k0, a1, a2, a3⟩ := sys_loc c w (h.1 w)
    obtain ⟨k, h1, h2, h3, h4, h5⟩ := ih (w.sys c).1 (h.2 _) (w.sys c).2 (es.push ⟨.output, true, false⟩)
    refine ⟨k0 + k, ?_, ?_, fun T d hA => ?_, ?_, ?_⟩ <;> simp only [Sem.runT]
    · rw [h1, a1, ← Nat.add_assoc]
    · rw [h2, a2]
    · rw [a3 T d hA.left, h3 T (d + k0) (hA.right a2 a1), Nat.add_assoc]
    · exact evOk_push (by intro m hm; cases hm) h4
    · exact h5
  | program kk ih =>
    intro w es
    obtain ⟨k, h1, h2, h3, h4, h5⟩ := ih P h w es
    exact ⟨k, h1, h2, fun T d hA => h3 T d hA, h4, h5⟩
  | mark m kk ih =>
    intro w es
    obtain ⟨k, h1, h2, h3, h4, h5⟩ := ih h.2 w (es.push ⟨.mark m, false, true⟩)
    exact ⟨k, h1, h2, fun T d hA => h3 T d hA, evOk_push (by intro m' hm; cases hm; exact h.1) h4, h5⟩
end
end Go.Proofs.Ythpanpedoeghoaa.Lift
set_option linter.unusedVariables false
set_option linter.unusedSimpArgs false
namespace Go.Proofs.Ythpanpedoeghoaa.Lift
open Go.Conc

/-- A zone: which functions; in which of a function's slots lie functions that it calls; which functions may lie there. -/
structure Zone where
  /-- whose frames may stand -/
  base : FuncId → Bool
  /-- which may be called -/
  fn : FuncId → Bool
  slots : FuncId → List Nat
  dyn : FuncId → Bool

/-- What may lie in such a slot: a function that may be called so, or no function at all. -/
def okFn (Z : Zone) (v : Value) : Prop := ∀ fn first caps, v = .func fn first caps → first = #[] ∧ ∃ f, fn = .func f ∧ Z.dyn f = true

def Zone.arg (Z : Zone) (f : FuncId) : Operand → Bool
  | .tmp t => (Z.slots f).contains t
  | .func g => Z.dyn g
  | _ => false
/-- The built-in functions of which it is shown (ZPlain) that they are mild. -/
def plainB : Builtin → Bool
  | .append | .cap | .copy | .len | .max | .min | .unsafeString => true
  | _ => false
def Zone.call (Z : Zone) (f : FuncId) (c : Call) : Bool :=
  match c.callee with
  | .builtin b => plainB b
  | .value (.func g) => Z.fn g && (Z.slots g).all fun t => match c.args[t]? with | some x => Z.arg f x | none => true
  | .value (.tmp t) => (Z.slots f).contains t
  | _ => false
def Zone.later (Z : Zone) (c : Call) : Bool :=
  match c.callee with
  | .builtin b => plainB b
  | .value (.func g) => Z.fn g && (Z.slots g).isEmpty
  | _ => false
def Zone.into (Z : Zone) (f : FuncId) (o : Oper) : Bool :=
  match o.dst with
  | none => true
  | some d => !(Z.slots f).contains d || match o.op with
    | .makeFunc (.func g) first _ => first.isEmpty && Z.dyn g
    | .move x | .assign x => Z.arg f x
    | _ => false
def Zone.oper (Z : Zone) (plain : Op → Bool) (f : FuncId) (o : Oper) : Bool :=
  Z.into f o && match o.op with
    | .call c => Z.call f c
    | .defer c => Z.later c
    | op => plain op
def Zone.code (Z : Zone) (plain : Op → Bool) (f : FuncId) : Code → Bool
  | .region _ ops _ => ops.all (Z.oper plain f)
  | .seq a b | .cond _ a b => Z.code plain f a && Z.code plain f b
  | .block _ c | .loop c | .scope c => Z.code plain f c
  | .rangeFunc .. => false
  | .skip | .exit _ | .label _ | .goto _ | .ret | .refuse _ => true
def Zone.item (Z : Zone) (plain : Op → Bool) (f : FuncId) : Item → Bool
  | .code c | .inLoop c | .inScope c => Z.code plain f c
  | .inBlock _ => true
  | .inRegion ops _ => ops.all (Z.oper plain f)
  | _ => false

/-- What an operation that is no call yields: a value, or nothing. -/
def Flat : Next → Prop
  | .value _ | .skip => True
  | _ => False
def FlatV : Next → Prop
  | .value _ => True
  | _ => False

/-- The program keeps to the zone. 'ok': the words that may be said; 'plain': the operations other than calls. -/
structure Tight (P : Program) (Z : Zone) (plain : Op → Bool) (ok : Mark → Prop) : Prop where
  there : ∀ f, Z.base f = true → ∃ fn, P.funcs[f]? = some fn ∧ ∀ tmps, Mild P ok (fun _ => True) (results fn tmps)
  body : ∀ f, Z.fn f = true → Z.base f = true ∧ ∃ fn, P.funcs[f]? = some fn ∧ (fn.name == "runtime.NumGoroutine") = false ∧
    ((∃ c, fn.body = some c ∧ Z.code plain f c = true) ∨
     (fn.body = none ∧ Extern.findNext fn = none ∧ (∀ m : Mark, m ≠ .disable → ok m) ∧ ∀ e args, Extern.find fn = some e → Mild P ok (fun _ => True) (e args)))
  dyn : ∀ f, Z.dyn f = true → Z.fn f = true ∧ Z.slots f = []
  flat : ∀ (o : Oper) ρ, plain o.op = true → Mild P ok Flat (execOp ρ o)
  calls : ∀ (o : Oper), plain o.op = true → (∀ c, o.op ≠ .call c) ∧ ∀ c, o.op ≠ .defer c
  builtin : ∀ b, plainB b = true → ∀ ts t cs args, Mild P ok FlatV (Go.builtin b ts t cs args)
  noReady : ∀ g, P.stepOf g = none
  ahead : P.follows .staticDataAhead = true

def DeferOk (Z : Zone) (d : Deferred) : Prop :=
  (∃ g caps, d.target = .fn (.func g) caps ∧ Z.fn g = true ∧ Z.slots g = []) ∨ ∃ b ts t cs, d.target = .builtin b ts t cs ∧ plainB b = true

structure FrameOk (Z : Zone) (plain : Op → Bool) (fr : Frame) : Prop where
  kind : fr.kind = .normal ∨ fr.kind = .deferred
  round : fr.roundOf = none
  fn : Z.base fr.fn = true
  todo : ∀ it ∈ fr.todo, Z.item plain fr.fn it = true
  defers : ∀ d ∈ fr.defers, DeferOk Z d
  slots : ∀ t ∈ Z.slots fr.fn, okFn Z (fr.tmps.getD t undef)

/-- Where a call is waited for, a call it is. -/
def Waiting (c : Frame) : Prop := ∀ ops i rest k o, c.todo = .inRegion ops (i :: rest) :: k → ops[i]? = some o → ∃ call, o.op = .call call
def Chain : Frame → List Frame → Prop
  | fr, [] => fr.kind = .normal
  | fr, c :: r => (fr.kind = .normal → Waiting c) ∧ Chain c r
/-- The frames from the top down to the base, whose kind is normal. -/
def StackOk (Z : Zone) (plain : Op → Bool) (fr : Frame) (fs : List Frame) : Prop :=
  (∀ x ∈ fr :: fs, FrameOk Z plain x) ∧ Chain fr fs

/-- The base stands at its end. -/
def AtBase (fr : Frame) (fs : List Frame) : Prop := fs = [] ∧ fr.defers = [] ∧ ∀ h : fr.mode = .run, False

/-- It is dying of a fatal error. -/
def Fatally (g : Goroutine) : Prop := g.status = .running ∧ ∃ d f, g.dying = some d ∧ d.calling = false ∧ d.fatal = some f
/-- No way leads on from here in a machine of one goroutine. -/
def Dead (s : GStep) : Prop := (∃ o w es, s = .ended o w es) ∨ ∃ g w es, s = .go g w es ∧ (g.status = .blocked ∨ g.status = .waiting ∨ Fatally g)

def Stepping (P : Program) (Z : Zone) (plain : Op → Bool) (ok : Mark → Prop) (F : World → List Frame → GStep) (w : World) : Prop :=
  (∃ k fr' fs' w' es, StackOk Z plain fr' fs' ∧ (∀ e ∈ es, EvOk ok e) ∧ w'.tape = w.tape ∧ w'.drawn = w.drawn + k ∧
    ∀ cs T d, Agree w T d k → F (tw w T d) cs = .go (G fr' (fs' ++ cs)) (tw w' T (d + k)) es) ∨
  ∃ k, ∀ cs T d, Agree w T d k → Dead (F (tw w T d) cs)

section
variable {P : Program} {Z : Zone} {plain : Op → Bool} {ok : Mark → Prop}

theorem okFn_undef : okFn Z undef := by intro fn first caps h; cases h

theorem arg_ok {fr : Frame} (h : FrameOk Z plain fr) {x : Operand} (hx : Z.arg fr.fn x = true) : okFn Z (fr.eval x) := by
  cases x with
  | tmp t => exact h.slots t (by simpa [Zone.arg] using hx)
  | func g => intro fn first caps e; simp only [Frame.eval, Value.func.injEq] at e; obtain ⟨rfl, rfl, rfl⟩ := e; exact ⟨rfl, g, rfl, hx⟩
  | _ => simp [Zone.arg] at hx

/-- A frame with its slots, list and mode turned. -/
theorem FrameOk.with_todo {fr : Frame} (h : FrameOk Z plain fr) {l : List Item} (hl : ∀ it ∈ l, Z.item plain fr.fn it = true) : FrameOk Z plain { fr with todo := l } := ⟨h.kind, h.round, h.fn, hl, h.defers, h.slots⟩
theorem FrameOk.with_mode {fr : Frame} (h : FrameOk Z plain fr) (m : FrameMode) : FrameOk Z plain { fr with mode := m } := ⟨h.kind, h.round, h.fn, h.todo, h.defers, h.slots⟩
theorem FrameOk.with_defers {fr : Frame} (h : FrameOk Z plain fr) {l : List Deferred} (hl : ∀ d ∈ l, DeferOk Z d) : FrameOk Z plain { fr with defers := l } := ⟨h.kind, h.round, h.fn, h.todo, hl, h.slots⟩
theorem FrameOk.raise {fr : Frame} (h : FrameOk Z plain fr) (vs : List PanicEntry) : FrameOk Z plain (fr.raise vs) := by
  unfold Frame.raise
  split <;> exact h.with_mode _

theorem StackOk.top {fr : Frame} {fs : List Frame} (h : StackOk Z plain fr fs) : FrameOk Z plain fr := h.1 fr (by simp)
theorem StackOk.turn {fr fr' : Frame} {fs : List Frame} (h : StackOk Z plain fr fs) (h' : FrameOk Z plain fr') (hk : fr'.kind = fr.kind) : StackOk Z plain fr' fs := by
  refine ⟨fun x hx => ?_, ?_⟩
  · rcases List.mem_cons.1 hx with rfl | hx
    · exact h'
    · exact h.1 x (by simp [hx])
  · have := h.2
    cases fs with
    | nil => exact hk.trans this
    | cons c r => exact ⟨fun e => this.1 (hk.symm.trans e), this.2⟩
theorem StackOk.push {fr fr' : Frame} {fs : List Frame} (h : StackOk Z plain fr fs) (h' : FrameOk Z plain fr') (hw : fr'.kind = .normal → Waiting fr) : StackOk Z plain fr' (fr :: fs) := by
  refine ⟨fun x hx => ?_, hw, h.2⟩
  rcases List.mem_cons.1 hx with rfl | hx
  · exact h'
  · exact h.1 x hx
theorem StackOk.pop {fr c : Frame} {fs : List Frame} (h : StackOk Z plain fr (c :: fs)) : StackOk Z plain c fs :=
  ⟨fun x hx => h.1 x (by simp at hx ⊢; exact .inr hx), h.2.2⟩

/-- At an operation, the value that it yields laid into its slot. -/
theorem FrameOk.finish {fr : Frame} (h : FrameOk Z plain fr) {v : Value} (hv : ∀ ops i rest k d, fr.todo = .inRegion ops (i :: rest) :: k → (ops[i]?).bind (·.dst) = some d → d ∈ Z.slots fr.fn → okFn Z v) : FrameOk Z plain (fr.finish v) := by
  unfold Frame.finish
  split
  · rename_i ops i rest k hk
    refine ⟨h.kind, h.round, h.fn, fun it hit => ?_, h.defers, fun t ht => ?_⟩
    · simp only [List.mem_cons] at hit
      rcases hit with rfl | hit
      · have := h.todo (.inRegion ops (i :: rest)) (by rw [hk]; simp)
        exact this
      · exact h.todo it (by rw [hk]; simp [hit])
    · cases hd : (ops[i]?).bind (·.dst) with
      | none => exact h.slots t ht
      | some d =>
        simp only
        by_cases e : t = d
        · subst e
          rw [Array.getD_eq_getD_getElem?, Array.getElem?_setIfInBounds]
          simp only [if_true]
          split
          · exact hv ops i rest k t hk hd ht
          · exact okFn_undef
        · have := h.slots t ht
          rw [Array.getD_eq_getD_getElem?, Array.getElem?_setIfInBounds_ne (Ne.symm e)]
          rw [Array.getD_eq_getD_getElem?] at this
          exact this
  · rename_i l k hk
    exact absurd (h.todo (.inRangeFunc l) (by rw [hk]; simp)) (by simp [Zone.item])
  · rename_i k hk
    exact absurd (h.todo .beginRound (by rw [hk]; simp)) (by simp [Zone.item])
  · rename_i d wr r s k hk
    exact absurd (h.todo (.call d wr r s) (by rw [hk]; simp)) (by simp [Zone.item])
  · rename_i r s k hk
    have hh := h.todo _ (hk ▸ List.mem_cons_self)
    simp [Zone.item] at hh
  · exact h
theorem finish_kind (fr : Frame) (v : Value) : (fr.finish v).kind = fr.kind := by unfold Frame.finish; split <;> rfl
theorem finish_fn (fr : Frame) (v : Value) : (fr.finish v).fn = fr.fn := by unfold Frame.finish; split <;> rfl
theorem raise_kind (fr : Frame) (vs : List PanicEntry) : (fr.raise vs).kind = fr.kind := by unfold Frame.raise; split <;> rfl

/-- A function of the zone's is entered. -/
theorem FrameOk.enter (hP : Tight P Z plain ok) {f : FuncId} {args : Array Value} {k : CallKind} (hf : Z.fn f = true) (hb : ∃ fn, P.funcs[f]? = some fn ∧ fn.body.isSome = true) (hk : k = .normal ∨ k = .deferred) (ha : ∀ t ∈ Z.slots f, okFn Z (args.getD t undef)) : FrameOk Z plain (Frame.enter P f args k) := by
  obtain ⟨fn, hfn, hbody⟩ := hb
  obtain ⟨hbase, fn', h1, _, h2⟩ := hP.body f hf
  rw [hfn] at h1
  obtain rfl := Option.some.inj h1
  refine ⟨hk, rfl, hbase, fun it hit => ?_, fun d hd => by simp [Frame.enter] at hd, fun t ht => ?_⟩
  · rcases h2 with ⟨c, hc, hz⟩ | ⟨hn, _⟩
    · simp only [Frame.enter, hfn, Option.bind_some, hc, Option.getD_some, List.mem_singleton] at hit
      subst hit
      exact hz
    · rw [hn] at hbody; cases hbody
  · have := ha t ht
    simp only [Frame.enter]
    rw [Array.getD_eq_getD_getElem?, Array.getElem?_append]
    split
    · rw [Array.getD_eq_getD_getElem?] at this; exact this
    · rw [Array.getElem?_replicate]
      split <;> exact okFn_undef
end
end Go.Proofs.Ythpanpedoeghoaa.Lift
set_option linter.unusedVariables false
set_option linter.unusedSimpArgs false
namespace Go.Proofs.Ythpanpedoeghoaa.Lift
open Go.Conc

section
variable {P : Program} {Z : Zone} {plain : Op → Bool} {ok : Mark → Prop}

def NextOk (P : Program) (Z : Zone) (plain : Op → Bool) (fr : Frame) : Next → Prop
  | .value v => FrameOk Z plain (fr.finish v)
  | .skip => FrameOk Z plain (fr.finish undef)
  | .enter f args => FrameOk Z plain (Frame.enter P f args .normal) ∧ Waiting fr
  | .defer d => FrameOk Z plain ({ fr with defers := d :: fr.defers }.finish undef)
  | _ => False

theorem dead_after {es : Array Event} {s : GStep} (h : Dead s) : Dead (GStep.after es s) := by
  rcases h with ⟨o, w, es', rfl⟩ | ⟨g, w, es', rfl, h⟩
  · exact .inl ⟨o, w, _, rfl⟩
  · exact .inr ⟨g, w, _, rfl, h⟩
theorem dead_ended (o : Outcome) (w : World) (es : Array Event) : Dead (.ended o w es) := .inl ⟨o, w, es, rfl⟩
theorem dead_dieOf (fr : Frame) (l : List ByteArray) (m : String) (b : Bool) (w : World) : Dead (dieOf fr l m b w) := .inr ⟨_, _, _, rfl, .inr (.inr ⟨rfl, _, _, rfl, rfl, rfl⟩)⟩
theorem dead_endThrow (fr : Frame) (m : String) (w : World) : Dead (endThrow fr m w) := dead_dieOf _ _ _ _ _
theorem dead_endFatal (fr : Frame) (cs : List Frame) (m : String) (w : World) : Dead (endFatal P fr cs none m w) := by
  unfold endFatal
  dsimp only
  split
  · exact dead_dieOf _ _ _ _ _
  · exact dead_ended _ _ _
  · exact dead_ended _ _ _
theorem dead_early (hP : Tight P Z plain ok) (fr : Frame) (cs : List Frame) (g : Nat) (w : World) : Dead (early P fr cs none g w) := by
  unfold early
  simp only [hP.ahead, hP.noReady, Bool.not_true, Bool.false_eq_true, if_false]
  exact dead_ended _ _ _

theorem seen_sub (P : Program) (fn : FuncId) (es : Array Event) : ∀ e ∈ seen P fn es, e ∈ es := by
  rw [seen_def]
  have h : ∀ (quiet : FuncId → Bool) (l : List Event) (acc : Bool × Array Event), (∀ e ∈ acc.2, e ∈ es) → (∀ e ∈ l, e ∈ es) → ∀ e ∈ (l.foldl (seenStep quiet) acc).2, e ∈ es := by
    intro quiet l
    induction l with
    | nil => exact fun acc h _ => h
    | cons x l ih =>
      intro acc h hl
      simp only [List.foldl_cons]
      refine ih _ ?_ fun e he => hl e (by simp [he])
      unfold seenStep
      dsimp only
      split
      · exact h
      · intro e he
        dsimp only at he
        split at he
        · exact h e he
        · rcases Array.mem_push.1 he with he | rfl
          · exact h e he
          · exact hl _ (by simp)
  exact h _ es.toList (_, #[]) (by simp) (by simp)

theorem evOk_seen {fn : FuncId} {es : Array Event} (h : ∀ e ∈ es, e ∈ (#[] : Array Event) ∨ EvOk ok e) : ∀ e ∈ seen P fn es, EvOk ok e := fun e he => by
  rcases h e (seen_sub P fn es e he) with h | h
  · simp at h
  · exact h

theorem stepping_apply (hP : Tight P Z plain ok) {fr : Frame} {fs : List Frame} (hS : StackOk Z plain fr fs) {F : World → List Frame → GStep} {w : World} (s : Sem Next) (hm : Mild P ok (NextOk P Z plain fr) s)
    (hF : ∀ w cs, F w cs = stepG.apply P true fr (fs ++ cs) none s w) (ht : ∀ it ∈ fr.todo.head?, ∀ d wr r sv, it ≠ .call d wr r sv) : Stepping P Z plain ok F w := by
  obtain ⟨k, h1, h2, h3, h4, h5⟩ := runT_loc s hm w #[]
  have hkind : (fr.kind == CallKind.early) = false := by rcases hS.top.kind with h | h <;> rw [h] <;> rfl
  generalize hr : s.runT P w #[] = r at h1 h2 h3 h4 h5
  obtain ⟨r, es⟩ := r
  simp only at h1 h2 h3 h4 h5
  have hes : ∀ e ∈ seen P fr.fn es, EvOk ok e := evOk_seen h4
  have go_ok : ∀ (fr' : Frame) (fs' : List Frame) (w' : World), StackOk Z plain fr' fs' → w'.tape = w.tape → w'.drawn = w.drawn + k →
      (∀ cs T d, Agree w T d k → F (tw w T d) cs = .go (G fr' (fs' ++ cs)) (tw w' T (d + k)) (seen P fr.fn es)) → Stepping P Z plain ok F w :=
    fun fr' fs' w' a b c e => .inl ⟨k, fr', fs', w', seen P fr.fn es, a, hes, b, c, e⟩
  cases r with
  | ok n w' =>
    have hN := h5 n w' rfl
    simp only [Result.world] at h1 h2
    have h3' : ∀ T d, Agree w T d k → s.runT P (tw w T d) #[] = (.ok n (tw w' T (d + k)), es) := fun T d hA => h3 T d hA
    cases n with
    | value v =>
      refine go_ok (fr.finish v) fs w' (hS.turn hN (finish_kind _ _)) h2 h1 fun cs T d hA => ?_
      rw [hF]; simp [-Sem.runT_eq, stepG.apply, h3' T d hA, hkind, GStep.after, G]
    | skip =>
      refine go_ok (fr.finish undef) fs w' (hS.turn hN (finish_kind _ _)) h2 h1 fun cs T d hA => ?_
      rw [hF]; simp [-Sem.runT_eq, stepG.apply, h3' T d hA, hkind, GStep.after, G]
    | enter f args =>
      refine go_ok (Frame.enter P f args .normal) (fr :: fs) w' (hS.push hN.1 fun _ => hN.2) h2 h1 fun cs T d hA => ?_
      rw [hF]; simp only [stepG.apply, h3' T d hA, hkind, GStep.after, G, if_true, Bool.false_eq_true, if_false, Array.append_empty, List.cons_append]
      congr 2
      split
      · rename_i dd r sv k hk
        exact absurd rfl (ht (.call dd true r sv) (by rw [hk]; rfl) dd true r sv)
      · rfl
    | defer dd =>
      refine go_ok (({ fr with defers := dd :: fr.defers } : Frame).finish undef) fs w' (hS.turn (show FrameOk Z plain (({ fr with defers := dd :: fr.defers } : Frame).finish undef) from hN) (finish_kind _ _)) h2 h1 fun cs T d hA => ?_
      rw [hF]; simp [-Sem.runT_eq, stepG.apply, h3' T d hA, hkind, GStep.after, G]
    | _ => exact hN.elim
  | halt h w' =>
    simp only [Result.world] at h1 h2
    have h3' : ∀ T d, Agree w T d k → s.runT P (tw w T d) #[] = (.halt h (tw w' T (d + k)), es) := fun T d hA => h3 T d hA
    have bad : (∀ cs T d, Agree w T d k → Dead (F (tw w T d) cs)) → Stepping P Z plain ok F w := fun h => .inr ⟨k, h⟩
    cases h with
    | panic v =>
      refine go_ok (fr.raise [{ v, recovered := false }]) fs w' (hS.turn (hS.top.raise _) (raise_kind _ _)) h2 h1 fun cs T d hA => ?_
      rw [hF]; simp [-Sem.runT_eq, stepG.apply, h3' T d hA, hkind, GStep.after, G]
    | goexit =>
      refine go_ok (fr.raise [goexitEntry]) fs w' (hS.turn (hS.top.raise _) (raise_kind _ _)) h2 h1 fun cs T d hA => ?_
      rw [hF]; simp [-Sem.runT_eq, stepG.apply, h3' T d hA, hkind, GStep.after, G]
    | unsupported u =>
      refine bad fun cs T d hA => ?_
      rw [hF]
      cases u with
      | initOrder g => simp only [stepG.apply, h3' T d hA, if_true]; exact dead_after (dead_early hP _ _ _ _)
      | _ => simp only [stepG.apply, h3' T d hA, if_true]; exact dead_after (dead_ended _ _ _)
    | blocked =>
      refine bad fun cs T d hA => ?_
      rw [hF]; simp only [stepG.apply, h3' T d hA, if_true]
      exact dead_after (.inr ⟨_, _, _, rfl, .inl rfl⟩)
    | waiting =>
      refine bad fun cs T d hA => ?_
      rw [hF]; simp only [stepG.apply, h3' T d hA, if_true]
      exact dead_after (.inr ⟨_, _, _, rfl, .inr (.inl rfl)⟩)
    | fatal m =>
      refine bad fun cs T d hA => ?_
      rw [hF]; simp only [stepG.apply, h3' T d hA, if_true]
      exact dead_after (dead_endFatal _ _ _ _)
    | throw m =>
      refine bad fun cs T d hA => ?_
      rw [hF]; simp only [stepG.apply, h3' T d hA, if_true]
      exact dead_after (dead_endThrow _ _ _)
    | exit c =>
      refine bad fun cs T d hA => ?_
      rw [hF]; simp only [stepG.apply, h3' T d hA, if_true]
      exact dead_after (dead_ended _ _ _)
    | stuck m =>
      refine bad fun cs T d hA => ?_
      rw [hF]; simp only [stepG.apply, h3' T d hA, if_true]
      exact dead_after (dead_ended _ _ _)
end
end Go.Proofs.Ythpanpedoeghoaa.Lift
set_option linter.unusedVariables false
set_option linter.unusedSimpArgs false
namespace Go.Proofs.Ythpanpedoeghoaa.Lift
open Go.Conc

section
variable {P : Program} {Z : Zone} {plain : Op → Bool} {ok : Mark → Prop}

theorem mild_program {α : Type} {Q : α → Prop} {g : Program → Sem α} (h : Mild P ok Q (g P)) : Mild P ok Q (program >>= g) := h
theorem mild_mark {α : Type} {Q : α → Prop} {m : Mark} {g : Unit → Sem α} (hm : ok m) (h : Mild P ok Q (g ())) : Mild P ok Q (mark m >>= g) := ⟨hm, h⟩
theorem mild_stuck {α : Type} {Q : α → Prop} (s : String) : Mild P ok Q (stuck s : Sem α) := trivial
theorem mild_unsupported {α : Type} {Q : α → Prop} (s : Unsupported) : Mild P ok Q (unsupported s : Sem α) := trivial

theorem mild_callFunc (hP : Tight P Z plain ok) {f : FuncId} (hf : Z.fn f = true) (args : Array Value) :
    Mild P ok (fun n => (∃ v, n = .value v) ∨ (n = .enter f args ∧ ∃ fn, P.funcs[f]? = some fn ∧ fn.body.isSome = true)) (callFunc f args) := by
  obtain ⟨_, fn, h1, hname, h2⟩ := hP.body f hf
  unfold callFunc
  refine mild_program ?_
  simp only [h1, hname, Bool.false_eq_true, if_false]
  rcases h2 with ⟨c, hc, _⟩ | ⟨hn, hx, hok, he⟩
  · simp only [hc, Option.isNone_some, Bool.false_eq_true, if_false]
    exact .inr ⟨rfl, fn, rfl, by simp [hc]⟩
  · simp only [hn, Option.isNone_none, if_true, hx]
    refine mild_mark (hok _ nofun) ?_
    cases hfe : Extern.find fn with
    | none =>
      simp only
      split
      · exact .inl ⟨_, rfl⟩
      · trivial
    | some e => exact Mild.bind (he e args hfe) fun v _ => .inl ⟨v, rfl⟩

theorem mild_nilDeref {α : Type} {Q : α → Prop} : Mild P ok Q (runtimePanic .nilDeref : Sem α) := by
  unfold runtimePanic
  exact mild_program trivial

/-- What a call yields. -/
def CallOk (P : Program) (Z : Zone) (fr : Frame) (n : Next) : Prop :=
  (∃ v, n = .value v) ∨ ∃ f args, n = .enter f args ∧ Z.fn f = true ∧ (∃ fn, P.funcs[f]? = some fn ∧ fn.body.isSome = true) ∧ ∀ t ∈ Z.slots f, okFn Z (args.getD t undef)

theorem flatV_builtin (hP : Tight P Z plain ok) {fr : Frame} {b : Builtin} (hb : plainB b = true) (ts : Array TypeId) (t : TypeId) (cs : Array Bool) (args : Array Value) : Mild P ok (CallOk P Z fr) (Go.builtin b ts t cs args) :=
  (hP.builtin b hb ts t cs args).mono fun n hn => by cases n <;> first | exact .inl ⟨_, rfl⟩ | exact hn.elim

theorem mild_call (hP : Tight P Z plain ok) {fr : Frame} (h : FrameOk Z plain fr) {c : Call} (hc : Z.call fr.fn c = true) (t : TypeId) :
    Mild P ok (CallOk P Z fr) (do let d ← resolve fr.eval c t; invoke d.target d.args) := by
  unfold resolve
  cases hcal : c.callee with
  | builtin b =>
    simp only [Zone.call, hcal] at hc
    exact flatV_builtin hP hc _ _ _ _
  | invoke x m => simp [Zone.call, hcal] at hc
  | value x =>
    cases x with
    | func g =>
      simp only [Zone.call, hcal, Bool.and_eq_true] at hc
      obtain ⟨hg, hs⟩ := hc
      refine (mild_callFunc hP hg (#[] ++ c.args.map fr.eval ++ #[])).mono fun n hn => ?_
      rcases hn with hn | ⟨rfl, hb⟩
      · exact .inl hn
      · refine .inr ⟨g, _, rfl, hg, hb, fun t ht => ?_⟩
        have := List.all_eq_true.1 hs t ht
        simp only [Array.append_empty, Array.empty_append]
        rw [Array.getD_eq_getD_getElem?, Array.getElem?_map]
        cases ha : c.args[t]? with
        | none => exact okFn_undef
        | some x => rw [ha] at this; exact arg_ok h this
    | tmp t' =>
      simp only [Zone.call, hcal] at hc
      have hv := h.slots t' (by simpa using hc)
      show Mild P ok (CallOk P Z fr) ((Deferred.ofValue (fr.tmps.getD t' undef) (c.args.map fr.eval)).bind fun d => invoke d.target d.args)
      generalize fr.tmps.getD t' undef = v at hv
      cases v with
      | func fn first caps =>
        obtain ⟨rfl, f, rfl, hd⟩ := hv _ _ _ rfl
        obtain ⟨hf, hs⟩ := hP.dyn f hd
        refine (mild_callFunc hP hf (#[] ++ c.args.map fr.eval ++ caps)).mono fun n hn => ?_
        rcases hn with hn | ⟨rfl, hb⟩
        · exact .inl hn
        · exact .inr ⟨f, _, rfl, hf, hb, fun t ht => by rw [hs] at ht; cases ht⟩
      | nilFunc => exact mild_nilDeref
      | _ => exact mild_stuck _
    | _ => simp [Zone.call, hcal] at hc

theorem mild_oper (hP : Tight P Z plain ok) {fr : Frame} (h : FrameOk Z plain fr) {ops : Array Oper} {i : Nat} {rest : List Nat} {k : List Item} {o : Oper} (hk : fr.todo = .inRegion ops (i :: rest) :: k) (ho : ops[i]? = some o) :
    Mild P ok (NextOk P Z plain fr) (execOp fr.eval o) := by
  have hz : Z.oper plain fr.fn o = true := by
    have := h.todo (.inRegion ops (i :: rest)) (by rw [hk]; simp)
    simp only [Zone.item, Array.all_eq_true_iff_forall_mem] at this
    exact this o (Array.mem_of_getElem? ho)
  simp only [Zone.oper, Bool.and_eq_true] at hz
  obtain ⟨hinto, hop⟩ := hz
  -- a value that is laid into a slot of the zone's comes of an operation that lays one
  have dstOk : ∀ v, ((∃ c, o.op = .call c) ∨ (∃ c, o.op = .defer c) ∨ (∀ d, o.dst = some d → d ∈ Z.slots fr.fn → okFn Z v)) → FrameOk Z plain (fr.finish v) := fun v hv =>
    h.finish fun ops' i' rest' k' d e1 e2 e3 => by
      rw [hk] at e1
      obtain ⟨e4, _⟩ := List.cons.inj e1
      cases e4
      rw [ho] at e2
      have e2 : o.dst = some d := e2
      rcases hv with ⟨c, hc⟩ | ⟨c, hc⟩ | hv
      · simp only [Zone.into, e2, hc, Bool.or_false, Bool.not_eq_true'] at hinto
        simp [e3] at hinto
      · simp only [Zone.into, e2, hc, Bool.or_false, Bool.not_eq_true'] at hinto
        simp [e3] at hinto
      · exact hv d e2 e3
  cases hopc : o.op with
  | call c =>
    rw [hopc] at hop
    have e : execOp fr.eval o = (do let d ← resolve fr.eval c o.type; invoke d.target d.args) := by unfold execOp; rw [hopc]
    rw [e]
    refine (mild_call hP h hop o.type).mono fun n hn => ?_
    rcases hn with ⟨v, rfl⟩ | ⟨f, args, rfl, hf, hb, ha⟩
    · exact dstOk v (.inl ⟨c, hopc⟩)
    · refine ⟨FrameOk.enter hP hf hb (.inl rfl) ha, fun ops' i' rest' k' o' e1 e2 => ?_⟩
      rw [hk] at e1
      obtain ⟨e4, _⟩ := List.cons.inj e1
      cases e4
      rw [ho] at e2
      obtain rfl := Option.some.inj e2
      exact ⟨c, hopc⟩
  | defer c =>
    rw [hopc] at hop
    have e : execOp fr.eval o = (do pure (.defer (← resolve fr.eval c o.type))) := by unfold execOp; rw [hopc]
    rw [e]
    have fin : ∀ d, DeferOk Z d → NextOk P Z plain fr (.defer d) := fun d hd => by
      have hf := dstOk undef (.inr (.inl ⟨c, hopc⟩))
      have e : ({ fr with defers := d :: fr.defers } : Frame).finish undef = { fr.finish undef with defers := d :: (fr.finish undef).defers } := by
        unfold Frame.finish
        simp only [hk]
      show FrameOk Z plain (({ fr with defers := d :: fr.defers } : Frame).finish undef)
      rw [e]
      exact hf.with_defers fun x hx => by
        rcases List.mem_cons.1 hx with rfl | hx
        · exact hd
        · exact hf.defers x hx
    unfold resolve
    cases hcal : c.callee with
    | builtin b =>
      simp only [Zone.later, hcal] at hop
      exact fin _ (.inr ⟨b, _, _, _, rfl, hop⟩)
    | invoke x m => simp [Zone.later, hcal] at hop
    | value x =>
      cases x with
      | func g =>
        simp only [Zone.later, hcal, Bool.and_eq_true, List.isEmpty_iff] at hop
        exact fin _ (.inl ⟨g, _, rfl, hop.1, hop.2⟩)
      | _ => simp [Zone.later, hcal] at hop
  | move x =>
    have e : execOp fr.eval o = pure (.value (fr.eval x)) := by unfold execOp; rw [hopc]
    rw [e]
    refine dstOk _ (.inr (.inr fun d hd hds => ?_))
    simp only [Zone.into, hd, hopc] at hinto
    have hc : (Z.slots fr.fn).contains d = true := by simpa using hds
    simp only [hc, Bool.not_true, Bool.false_or] at hinto
    exact arg_ok h hinto
  | assign x =>
    have e : execOp fr.eval o = pure (.value (fr.eval x)) := by unfold execOp; rw [hopc]
    rw [e]
    refine dstOk _ (.inr (.inr fun d hd hds => ?_))
    simp only [Zone.into, hd, hopc] at hinto
    have hc : (Z.slots fr.fn).contains d = true := by simpa using hds
    simp only [hc, Bool.not_true, Bool.false_or] at hinto
    exact arg_ok h hinto
  | makeFunc fn first caps =>
    have e : execOp fr.eval o = pure (.value (.func fn (first.map fr.eval) (caps.map fr.eval))) := by unfold execOp; rw [hopc]; rfl
    rw [e]
    refine dstOk _ (.inr (.inr fun d hd hds => ?_))
    simp only [Zone.into, hd, hopc] at hinto
    have hc : (Z.slots fr.fn).contains d = true := by simpa using hds
    simp only [hc, Bool.not_true, Bool.false_or] at hinto
    cases fn with
    | func g =>
      simp only [Bool.and_eq_true] at hinto
      intro fn' first' caps' e'
      simp only [Value.func.injEq] at e'
      obtain ⟨rfl, rfl, rfl⟩ := e'
      exact ⟨by have := hinto.1; simp at this; subst this; simp, g, rfl, hinto.2⟩
    | _ => simp at hinto
  | _ =>
    rw [hopc] at hop
    simp only at hop
    have hpl : plain o.op = true := by rw [hopc]; exact hop
    have hsl : ¬ ∃ d, o.dst = some d ∧ d ∈ Z.slots fr.fn := by
      rintro ⟨d, hd, hds⟩
      simp only [Zone.into, hd, hopc] at hinto
      have hc : (Z.slots fr.fn).contains d = true := by simpa using hds
      simp only [hc, Bool.not_true, Bool.false_or] at hinto
      cases hinto
    refine (hP.flat o fr.eval hpl).mono fun n hn => ?_
    cases n <;> first
      | exact dstOk _ (.inr (.inr fun d hd hds => absurd ⟨d, hd, hds⟩ hsl))
      | exact hn.elim
end
end Go.Proofs.Ythpanpedoeghoaa.Lift
set_option linter.unusedVariables false
set_option linter.unusedSimpArgs false
namespace Go.Proofs.Ythpanpedoeghoaa.Lift
open Go.Conc

section
variable {P : Program} {Z : Zone} {plain : Op → Bool} {ok : Mark → Prop}

/-- A goroutine's own step, whatever stands below the frames. -/
def own (P : Program) (fr : Frame) (fs : List Frame) : World → List Frame → GStep := fun w cs => stepG P true (G fr (fs ++ cs)) w

/-- A step that asks nothing and turns nothing. -/
theorem stepping_still {fr fr' : Frame} {fs : List Frame} {w : World} (h' : StackOk Z plain fr' fs) (h : ∀ w cs, own P fr fs w cs = .go (G fr' (fs ++ cs)) w #[]) : Stepping P Z plain ok (own P fr fs) w :=
  .inl ⟨0, fr', fs, w, #[], h', by simp, rfl, rfl, fun cs T d _ => h _ _⟩

theorem stepping_dead {F : World → List Frame → GStep} {w : World} (h : ∀ w cs, Dead (F w cs)) : Stepping P Z plain ok F w := .inr ⟨0, fun cs T d _ => h _ _⟩

theorem code_exit {f : FuncId} : ∀ {l l' : List Item} {id : Nat}, exitTo id l = some l' → (∀ it ∈ l, Z.item plain f it = true) → ∀ it ∈ l', Z.item plain f it = true
  | [], l', id, h, _ => by simp [exitTo] at h
  | it :: l, l', id, h, hl => by
    cases it with
    | inBlock i =>
      simp only [exitTo] at h
      split at h
      · obtain rfl := Option.some.inj h
        exact fun x hx => hl x (by simp [hx])
      · exact code_exit h fun x hx => hl x (by simp [hx])
    | _ => exact code_exit (by simpa [exitTo] using h) fun x hx => hl x (by simp [hx])

theorem code_label {f : FuncId} : ∀ {c c' : Code} {l : Nat}, findLabel c l = some c' → Z.code plain f c = true → Z.code plain f c' = true
  | .seq a b, c', l, h, hc => by
    simp only [Zone.code, Bool.and_eq_true] at hc
    simp only [findLabel] at h
    split at h
    · rename_i r hr
      obtain rfl := Option.some.inj h
      simp only [Zone.code, Bool.and_eq_true]
      exact ⟨code_label hr hc.1, hc.2⟩
    · exact code_label h hc.2
  | .label l', c', l, h, hc => by
    simp only [findLabel] at h
    split at h
    · obtain rfl := Option.some.inj h; rfl
    · cases h
  | .skip, _, _, h, _ | .region .., _, _, h, _ | .cond .., _, _, h, _ | .block .., _, _, h, _ | .loop .., _, _, h, _ | .rangeFunc .., _, _, h, _ | .exit .., _, _, h, _ | .scope .., _, _, h, _ | .goto .., _, _, h, _ | .ret, _, _, h, _ | .refuse .., _, _, h, _ => by simp [findLabel] at h

theorem code_goto {f : FuncId} : ∀ {l l' : List Item} {n : Nat}, gotoIn n l = some l' → (∀ it ∈ l, Z.item plain f it = true) → ∀ it ∈ l', Z.item plain f it = true
  | [], l', id, h, _ => by simp [gotoIn] at h
  | it :: l, l', id, h, hl => by
    cases it with
    | inScope c =>
      simp only [gotoIn] at h
      split at h
      · rename_i r hr
        obtain rfl := Option.some.inj h
        have hc : Z.code plain f c = true := hl (.inScope c) (by simp)
        intro x hx
        simp only [List.mem_cons] at hx
        rcases hx with rfl | rfl | hx
        · exact code_label hr hc
        · exact hc
        · exact hl x (by simp [hx])
      · exact code_goto h fun x hx => hl x (by simp [hx])
    | _ => exact code_goto (by simpa [gotoIn] using h) fun x hx => hl x (by simp [hx])

theorem stepping_exec (hP : Tight P Z plain ok) {fr : Frame} {fs : List Frame} (hS : StackOk Z plain fr fs) (hr : fr.mode = .run) (w : World) : Stepping P Z plain ok (own P fr fs) w := by
  have hT := hS.top
  have hro := hT.round
  have e0 : ∀ w cs, own P fr fs w cs = stepG.exec P true true fr (fs ++ cs) none w := by
    intro w cs
    unfold own
    simp [stepG, G, hr]
  have to : ∀ l, (∀ it ∈ l, Z.item plain fr.fn it = true) → (∀ w cs, own P fr fs w cs = .go (G { fr with todo := l } (fs ++ cs)) w #[]) → Stepping P Z plain ok (own P fr fs) w :=
    fun l hl h => stepping_still (hS.turn (hT.with_todo hl) rfl) h
  have tail : ∀ {it k}, fr.todo = it :: k → ∀ x ∈ k, Z.item plain fr.fn x = true := fun e x hx => hT.todo x (by rw [e]; simp [hx])
  have head : ∀ {it k}, fr.todo = it :: k → Z.item plain fr.fn it = true := fun e => hT.todo _ (by rw [e]; simp)
  cases htd : fr.todo with
  | nil =>
    refine stepping_still (fr' := { fr with mode := .returning }) (hS.turn (hT.with_mode _) rfl) fun w cs => ?_
    rw [e0]; simp [stepG.exec, htd, hro, G]
  | cons it k =>
    have hk := tail htd
    have hi := head htd
    cases it with
    | inBlock id => exact to k hk fun w cs => by rw [e0]; simp [stepG.exec, htd, hro, G]
    | inScope c => exact to k hk fun w cs => by rw [e0]; simp [stepG.exec, htd, hro, G]
    | inLoop c =>
      refine to (.code c :: .inLoop c :: k) (fun x hx => ?_) fun w cs => by rw [e0]; simp [stepG.exec, htd, hro, G]
      simp only [List.mem_cons] at hx
      rcases hx with rfl | rfl | hx
      · exact hi
      · exact hi
      · exact hk x hx
    | code c =>
      cases c with
      | skip => exact to k hk fun w cs => by rw [e0]; simp [stepG.exec, htd, hro, G]
      | label l => exact to k hk fun w cs => by rw [e0]; simp [stepG.exec, htd, hro, G]
      | ret =>
        refine stepping_still (fr' := { fr with mode := .returning }) (hS.turn (hT.with_mode _) rfl) fun w cs => ?_
        rw [e0]; simp [stepG.exec, htd, hro, G]
      | refuse why => exact stepping_dead fun w cs => by rw [e0]; simp only [stepG.exec, htd]; exact dead_ended _ _ _
      | rangeFunc f p a b => simp [Zone.item, Zone.code] at hi
      | seq a b =>
        simp only [Zone.item, Zone.code, Bool.and_eq_true] at hi
        refine to (.code a :: .code b :: k) (fun x hx => ?_) fun w cs => by rw [e0]; simp [stepG.exec, htd, hro, G]
        simp only [List.mem_cons] at hx
        rcases hx with rfl | rfl | hx
        · exact hi.1
        · exact hi.2
        · exact hk x hx
      | block id c =>
        refine to (.code c :: .inBlock id :: k) (fun x hx => ?_) fun w cs => by rw [e0]; simp [stepG.exec, htd, hro, G]
        simp only [List.mem_cons] at hx
        rcases hx with rfl | rfl | hx
        · exact hi
        · rfl
        · exact hk x hx
      | loop c =>
        refine to (.code c :: .inLoop c :: k) (fun x hx => ?_) fun w cs => by rw [e0]; simp [stepG.exec, htd, hro, G]
        simp only [List.mem_cons] at hx
        rcases hx with rfl | rfl | hx
        · exact hi
        · exact hi
        · exact hk x hx
      | scope c =>
        refine to (.code c :: .inScope c :: k) (fun x hx => ?_) fun w cs => by rw [e0]; simp [stepG.exec, htd, hro, G]
        simp only [List.mem_cons] at hx
        rcases hx with rfl | rfl | hx
        · exact hi
        · exact hi
        · exact hk x hx
      | cond x a b =>
        simp only [Zone.item, Zone.code, Bool.and_eq_true] at hi
        by_cases hb : ∃ t, fr.eval x = .bool t
        · obtain ⟨t, ht⟩ := hb
          refine to (.code (if t then a else b) :: k) (fun y hy => ?_) fun w cs => by rw [e0]; simp [stepG.exec, htd, hro, G, ht]
          simp only [List.mem_cons] at hy
          rcases hy with rfl | hy
          · cases t
            · exact hi.2
            · exact hi.1
          · exact hk y hy
        · refine stepping_dead fun w cs => ?_
          rw [e0]; simp only [stepG.exec, htd]
          split
          · rename_i b' e; exact absurd ⟨_, e⟩ hb
          · exact dead_ended _ _ _
      | exit id =>
        cases he : exitTo id k with
        | some l => exact to l (code_exit he hk) fun w cs => by rw [e0]; simp [stepG.exec, htd, hro, G, he]
        | none => exact stepping_dead fun w cs => by rw [e0]; simp only [stepG.exec, htd, he, hro, Option.elim_none]; exact dead_ended _ _ _
      | goto l =>
        cases he : gotoIn l k with
        | some l' => exact to l' (code_goto he hk) fun w cs => by rw [e0]; simp [stepG.exec, htd, hro, G, he]
        | none => exact stepping_dead fun w cs => by rw [e0]; simp only [stepG.exec, htd, he, hro, Option.elim_none]; exact dead_ended _ _ _
      | region id ops draw =>
        cases draw with
        | false => exact to (.inRegion ops (List.range ops.size) :: k) (fun x hx => by
            simp only [List.mem_cons] at hx
            rcases hx with rfl | hx
            · exact hi
            · exact hk x hx) fun w cs => by rw [e0]; simp [stepG.exec, htd, hro, G]
        | true =>
          refine .inl ⟨1, { fr with todo := .inRegion ops (Region.schedule (P.follows .mixedOrders) ops (w.tape w.drawn (.order fr.fn id))) :: k }, fs, { w with drawn := w.drawn + 1 }, #[], hS.turn (hT.with_todo fun x hx => ?_) rfl, by simp, rfl, rfl, fun cs T d hA => ?_⟩
          · simp only [List.mem_cons] at hx
            rcases hx with rfl | hx
            · exact hi
            · exact hk x hx
          · have e1 : T d = w.tape w.drawn := by simpa using hA 0 (by omega)
            rw [e0]
            simp [stepG.exec, htd, G, choose, Sem.run, Question.forced, Question.cut, e1]
            rfl
    | inRegion ops l =>
      cases l with
      | nil => exact to k hk fun w cs => by rw [e0]; simp [stepG.exec, htd, hro, G]
      | cons i rest =>
        cases ho : ops[i]? with
        | none =>
          refine stepping_still (fr' := fr.finish undef) (hS.turn (hT.finish fun ops' i' r' k' d e1 e2 _ => ?_) (finish_kind _ _)) fun w cs => ?_
          · rw [htd] at e1; cases e1; rw [ho] at e2; cases e2
          · rw [e0]; simp [stepG.exec, htd, ho, G]
        | some o =>
          by_cases hw : Region.wanted o (yielded ops fr.tmps) = true
          · refine stepping_apply hP hS (execOp fr.eval o) (mild_oper hP hT htd ho) (fun w cs => ?_) (fun it h => by rw [htd] at h; obtain rfl := Option.some.inj h; intro _ _ _ _ h; cases h)
            rw [e0]; simp only [stepG.exec, htd, ho, Option.map_some, hw, Option.getD_some, if_true, stepG.oper, Frame.oper?, hro]
          · refine stepping_still (fr' := fr.finish undef) (hS.turn (hT.finish fun ops' i' r' k' d e1 e2 _ => okFn_undef) (finish_kind _ _)) fun w cs => ?_
            rw [e0]; simp [stepG.exec, htd, ho, hw, G]
    | _ => simp [Zone.item] at hi
end
end Go.Proofs.Ythpanpedoeghoaa.Lift
set_option linter.unusedVariables false
set_option linter.unusedSimpArgs false
namespace Go.Proofs.Ythpanpedoeghoaa.Lift
open Go.Conc

section
variable {P : Program} {Z : Zone} {plain : Op → Bool} {ok : Mark → Prop}

theorem seen_ok {fn : FuncId} {es : Array Event} (h : ∀ e ∈ es, EvOk ok e) : ∀ e ∈ seen P fn es, EvOk ok e := fun e he => h e (seen_sub P fn es e he)

theorem own_unwind {fr : Frame} {fs : List Frame} (hr : ¬ fr.mode = .run) (w : World) (cs : List Frame) : own P fr fs w cs = unwind P true fr (fs ++ cs) none w := by
  unfold own
  cases hm : fr.mode with
  | run => exact absurd hm hr
  | _ => simp only [stepG, G, hm]

theorem unwind_deferred {fr : Frame} {cs : List Frame} {d : Deferred} {ds : List Deferred} (hd : fr.defers = d :: ds) (hdo : DeferOk Z d) (w : World) :
    unwind P true fr cs none w = callDeferred P { fr with defers := ds } cs none d w := by
  unfold unwind
  obtain ⟨tg, args⟩ := d
  rcases hdo with ⟨g, caps, e, _⟩ | ⟨b', ts, t, cs, e, _⟩ <;> (simp only at e; subst e; simp only [hd])

theorem mild_deferred (hP : Tight P Z plain ok) {d : Deferred} (hdo : DeferOk Z d) :
    Mild P ok (fun n => (∃ v, n = .value v) ∨ ∃ f args, n = .enter f args ∧ FrameOk Z plain (Frame.enter P f args .deferred)) (invoke d.target d.args) := by
  obtain ⟨tg, args⟩ := d
  rcases hdo with ⟨g, caps, e, hg, hs⟩ | ⟨b', ts, t, cs, e, hb⟩
  · simp only at e; subst e
    refine (mild_callFunc hP hg (args ++ caps)).mono fun n hn => ?_
    rcases hn with hn | ⟨rfl, hb⟩
    · exact .inl hn
    · exact .inr ⟨g, _, rfl, FrameOk.enter hP hg hb (.inr rfl) (fun t ht => by rw [hs] at ht; cases ht)⟩
  · simp only at e; subst e
    exact (hP.builtin b' hb ts t cs args).mono fun n hn => by cases n <;> first | exact .inl ⟨_, rfl⟩ | exact hn.elim

theorem stepping_deferred (hP : Tight P Z plain ok) {fr : Frame} {fs : List Frame} (hS : StackOk Z plain fr fs) (hr : ¬ fr.mode = .run) {d : Deferred} {ds : List Deferred} (hd : fr.defers = d :: ds) (w : World) : Stepping P Z plain ok (own P fr fs) w := by
  have hT := hS.top
  have hdo := hT.defers d (by rw [hd]; simp)
  have hT' : FrameOk Z plain { fr with defers := ds } := hT.with_defers fun x hx => hT.defers x (by rw [hd]; simp [hx])
  have hS' : StackOk Z plain { fr with defers := ds } fs := hS.turn hT' rfl
  have e0 : ∀ w cs, own P fr fs w cs = callDeferred P { fr with defers := ds } (fs ++ cs) none d w := fun w cs => by rw [own_unwind hr, unwind_deferred hd hdo]
  obtain ⟨k, h1, h2, h3, h4, h5⟩ := runT_loc _ (mild_deferred (P := P) (plain := plain) hP hdo) w #[]
  generalize hR : (invoke d.target d.args).runT P w #[] = r at h1 h2 h3 h4 h5
  obtain ⟨r, es⟩ := r
  simp only at h1 h2 h3 h4 h5
  have h4' : ∀ e ∈ es, EvOk ok e := fun e he => (h4 e he).elim (fun h => by simp at h) id
  cases r with
  | ok n w' =>
    simp only [Result.world] at h1 h2
    have h3' : ∀ T d', Agree w T d' k → (invoke d.target d.args).runT P (tw w T d') #[] = (.ok n (tw w' T (d' + k)), es) := fun T d hA => h3 T d hA
    rcases h5 n w' rfl with ⟨v, rfl⟩ | ⟨f, args, rfl, hf⟩
    · refine .inl ⟨k, { fr with defers := ds }, fs, w', seen P fr.fn es, hS', seen_ok h4', h2, h1, fun cs T d' hA => ?_⟩
      rw [e0]
      unfold callDeferred
      rw [if_neg (by rcases hdo with ⟨g, caps, e, _⟩ | ⟨b', ts, t, cs, e, _⟩ <;> simp [e])]
      simp only [h3' T d' hA, GStep.after, G, Array.append_empty]
    · refine .inl ⟨k, Frame.enter P f args .deferred, { fr with defers := ds } :: fs, w', seen P fr.fn es, hS'.push hf (fun h => by cases h), seen_ok h4', h2, h1, fun cs T d' hA => ?_⟩
      rw [e0]
      unfold callDeferred
      rw [if_neg (by rcases hdo with ⟨g, caps, e, _⟩ | ⟨b', ts, t, cs, e, _⟩ <;> simp [e])]
      simp only [h3' T d' hA, GStep.after, G, Array.append_empty, List.cons_append]
  | halt h w' =>
    simp only [Result.world] at h1 h2
    have h3' : ∀ T d', Agree w T d' k → (invoke d.target d.args).runT P (tw w T d') #[] = (.halt h (tw w' T (d' + k)), es) := fun T d hA => h3 T d hA
    have raised : ∀ vs, (∀ cs T d', Agree w T d' k → ∃ es', es' = seen P fr.fn es ∧ own P fr fs (tw w T d') cs = .go (G (({ fr with defers := ds } : Frame).raise vs) (fs ++ cs)) (tw w' T (d' + k)) es') → Stepping P Z plain ok (own P fr fs) w :=
      fun vs h => .inl ⟨k, _, fs, w', seen P fr.fn es, hS'.turn (hT'.raise vs) (raise_kind _ _), seen_ok h4', h2, h1, fun cs T d' hA => by obtain ⟨_, rfl, e⟩ := h cs T d' hA; exact e⟩
    cases h with
    | panic v =>
      refine raised [{ v, recovered := false }] fun cs T d' hA => ⟨_, rfl, ?_⟩
      rw [e0]; unfold callDeferred
      rw [if_neg (by rcases hdo with ⟨g, caps, e, _⟩ | ⟨b', ts, t, cs, e, _⟩ <;> simp [e])]
      simp only [h3' T d' hA, GStep.after, G, Array.append_empty]
    | goexit =>
      refine raised [goexitEntry] fun cs T d' hA => ⟨_, rfl, ?_⟩
      rw [e0]; unfold callDeferred
      rw [if_neg (by rcases hdo with ⟨g, caps, e, _⟩ | ⟨b', ts, t, cs, e, _⟩ <;> simp [e])]
      simp only [h3' T d' hA, GStep.after, G, Array.append_empty]
    | blocked =>
      refine .inr ⟨k, fun cs T d' hA => ?_⟩
      rw [e0]; unfold callDeferred
      rw [if_neg (by rcases hdo with ⟨g, caps, e, _⟩ | ⟨b', ts, t, cs, e, _⟩ <;> simp [e])]
      simp only [h3' T d' hA]
      exact dead_after (.inr ⟨_, _, _, rfl, .inl rfl⟩)
    | waiting =>
      refine .inr ⟨k, fun cs T d' hA => ?_⟩
      rw [e0]; unfold callDeferred
      rw [if_neg (by rcases hdo with ⟨g, caps, e, _⟩ | ⟨b', ts, t, cs, e, _⟩ <;> simp [e])]
      simp only [h3' T d' hA]
      exact dead_after (.inr ⟨_, _, _, rfl, .inr (.inl rfl)⟩)
    | fatal m =>
      refine .inr ⟨k, fun cs T d' hA => ?_⟩
      rw [e0]; unfold callDeferred
      rw [if_neg (by rcases hdo with ⟨g, caps, e, _⟩ | ⟨b', ts, t, cs, e, _⟩ <;> simp [e])]
      simp only [h3' T d' hA]
      exact dead_after (dead_endFatal _ _ _ _)
    | throw m =>
      refine .inr ⟨k, fun cs T d' hA => ?_⟩
      rw [e0]; unfold callDeferred
      rw [if_neg (by rcases hdo with ⟨g, caps, e, _⟩ | ⟨b', ts, t, cs, e, _⟩ <;> simp [e])]
      simp only [h3' T d' hA]
      exact dead_after (dead_endThrow _ _ _)
    | _ =>
      refine .inr ⟨k, fun cs T d' hA => ?_⟩
      rw [e0]; unfold callDeferred
      rw [if_neg (by rcases hdo with ⟨g, caps, e, _⟩ | ⟨b', ts, t, cs, e, _⟩ <;> simp [e])]
      simp only [h3' T d' hA]
      exact dead_after (dead_ended _ _ _)

theorem FrameOk.finish_waiting {c : Frame} (h : FrameOk Z plain c) (hw : Waiting c) (v : Value) : FrameOk Z plain (c.finish v) :=
  h.finish fun ops i rest k d e1 e2 e3 => by
    cases ho : ops[i]? with
    | none => rw [ho] at e2; cases e2
    | some o =>
      rw [ho] at e2
      have e2 : o.dst = some d := e2
      obtain ⟨call, hc⟩ := hw ops i rest k o e1 ho
      have hz : Z.oper plain c.fn o = true := by
        have := h.todo (.inRegion ops (i :: rest)) (by rw [e1]; simp)
        simp only [Zone.item, Array.all_eq_true_iff_forall_mem] at this
        exact this o (Array.mem_of_getElem? ho)
      simp only [Zone.oper, Zone.into, e2, hc, Bool.or_false, Bool.and_eq_true, Bool.not_eq_true'] at hz
      simp [e3] at hz

theorem stepping (hP : Tight P Z plain ok) {fr : Frame} {fs : List Frame} (hS : StackOk Z plain fr fs) (hb : ¬ AtBase fr fs) (w : World) : Stepping P Z plain ok (own P fr fs) w := by
  have hT := hS.top
  by_cases hr : fr.mode = .run
  · exact stepping_exec hP hS hr w
  cases hd : fr.defers with
  | cons d ds => exact stepping_deferred hP hS hr hd w
  | nil =>
    cases fs with
    | nil => exact absurd ⟨rfl, hd, fun h => hr h⟩ hb
    | cons c r =>
      obtain ⟨fn, hfn, hres⟩ := hP.there fr.fn hT.fn
      have hpop := hS.pop
      cases hm : fr.mode with
      | run => exact absurd hm hr
      | panicking chain =>
        refine .inl ⟨0, c.raise chain, r, w, #[], hpop.turn (hpop.top.raise _) (raise_kind _ _), by simp, rfl, rfl, fun cs T d hA => ?_⟩
        rw [own_unwind hr]
        unfold unwind
        simp only [hd, hm, Frame.catches, hfn, Bool.false_eq_true, if_false, List.cons_append, G]
        rfl
      | returning =>
        obtain ⟨k, h1, h2, h3, h4, h5⟩ := runT_loc _ (hres fr.tmps) w #[]
        generalize hR : (results fn fr.tmps).runT P w #[] = q at h1 h2 h3 h4 h5
        obtain ⟨q, es⟩ := q
        simp only at h1 h2 h3 h4 h5
        have h4' : ∀ e ∈ es, EvOk ok e := fun e he => (h4 e he).elim (fun h => by simp at h) id
        have e0 : ∀ w cs, own P fr (c :: r) w cs = (let (q, es) := (results fn fr.tmps).runT P w #[]
          GStep.after (seen P fr.fn es) (match q with
            | .ok v w => doReturn P true fr (c :: r ++ cs) none v w
            | .halt (.stuck s) w => .ended (.stuck s (fr.pos P)) w
            | .halt _ w => .ended (.stuck "return: the result variables cannot be read" (fr.pos P)) w)) := by
          intro w cs
          rw [own_unwind hr]
          unfold unwind
          simp only [hd, hm, hfn]
          rfl
        cases q with
        | ok v w' =>
          simp only [Result.world] at h1 h2
          have h3' : ∀ T d', Agree w T d' k → (results fn fr.tmps).runT P (tw w T d') #[] = (.ok v (tw w' T (d' + k)), es) := fun T d hA => h3 T d hA
          rcases hT.kind with hk | hk
          · refine .inl ⟨k, c.finish v, r, w', seen P fr.fn es, hpop.turn (hpop.top.finish_waiting (hS.2.1 hk) v) (finish_kind _ _), seen_ok h4', h2, h1, fun cs T d' hA => ?_⟩
            rw [e0]
            simp only [h3' T d' hA, doReturn, hk, List.cons_append, GStep.after, G, Array.append_empty]
          · have key : ∀ c' : Frame, (∀ w cs, doReturn P true fr (c :: r ++ cs) none v w = .go (G c' (r ++ cs)) w) → FrameOk Z plain c' → c'.kind = c.kind → Stepping P Z plain ok (own P fr (c :: r)) w := fun c' h hc' hck =>
              .inl ⟨k, c', r, w', seen P fr.fn es, hpop.turn hc' hck, seen_ok h4', h2, h1, fun cs T d' hA => by
                rw [e0]
                simp only [h3' T d' hA, h, GStep.after, Array.append_empty]⟩
            have e1 : ∀ w cs, doReturn P true fr (c :: r ++ cs) none v w = .go (G (match c.mode with
                | .panicking ({ recovered := true, .. } :: older) =>
                  match older.dropWhile (!·.goexit) with
                  | [] => { c with mode := .returning }
                  | rest => { c with mode := .panicking rest }
                | _ => c) (r ++ cs)) w := by
              intro w cs
              unfold doReturn
              simp only [hk, List.cons_append, G]
              rfl
            refine key _ e1 ?_ ?_
            · split
              · split <;> exact hpop.top.with_mode _
              · exact hpop.top
            · split
              · split <;> rfl
              · rfl
        | halt h w' =>
          have h3' : ∀ T d', Agree w T d' k → (results fn fr.tmps).runT P (tw w T d') #[] = (.halt h (tw w' T (d' + k)), es) := fun T d hA => h3 T d hA
          refine .inr ⟨k, fun cs T d' hA => ?_⟩
          rw [e0]
          simp only [h3' T d' hA]
          refine dead_after ?_
          split <;> first | exact dead_ended _ _ _ | (rename_i e; cases e)
end
end Go.Proofs.Ythpanpedoeghoaa.Lift
set_option linter.unusedVariables false
set_option linter.unusedSimpArgs false
namespace Go.Proofs.Ythpanpedoeghoaa.Lift
open Go.Conc

section
variable {P : Program} {Z : Zone} {plain : Op → Bool} {ok : Mark → Prop}

/-- A path of own steps: whatever stands below. -/
inductive SPath (P : Program) : Frame → List Frame → World → Frame → List Frame → World → Prop
  | refl (fr : Frame) (fs : List Frame) (w : World) : SPath P fr fs w fr fs w
  | step {fr fr' fr'' : Frame} {fs fs' fs'' : List Frame} {w w' w'' : World} {es : Array Event} (h : ∀ cs, own P fr fs w cs = .go (G fr' (fs' ++ cs)) w' es) (h' : SPath P fr' fs' w' fr'' fs'' w'') : SPath P fr fs w fr'' fs'' w''

/-- What no step leads out of, in a machine of one goroutine. -/
def Lost (g : Goroutine) : Prop := g.status = .blocked ∨ g.status = .waiting ∨ Fatally g

theorem solo_lone (fr : Frame) (cs : List Frame) (w : World) : lone fr cs w = solo (G fr cs) w := rfl

theorem step_solo_go {a a' : Goroutine} {w w' : World} {es : Array Event} (hs : a.status = .running) (h : stepG P true a w = .go a' w' es) : step P (solo a w) = .next (solo a' w') := by
  rw [step, stepT_solo hs, runT_solo_go h]
theorem step_solo_ended {a : Goroutine} {w w' : World} {o : Outcome} {es : Array Event} (hs : a.status = .running) (h : stepG P true a w = .ended o w' es) : step P (solo a w) = .ended o w' := by
  rw [step, stepT_solo hs]
  simp [runT, solo, Array.swapAt!, Array.swapAt, h, GStep.es]

theorem writeOn_lost {fr : Frame} {d : Dying} {f : Fatal} {w : World} (hc : d.calling = false) : (∃ o w' es, writeOn P fr d f w = .ended o w' es) ∨ ∃ g w' es, writeOn P fr d f w = .go g w' es ∧ Lost g := by
  unfold writeOn
  split
  · exact .inl ⟨_, _, _, rfl⟩
  · dsimp only
    split
    · exact .inr ⟨_, _, _, rfl, .inr (.inr ⟨rfl, _, _, rfl, hc, rfl⟩)⟩
    · exact .inr ⟨_, _, _, rfl, .inl rfl⟩
    · exact .inl ⟨_, _, _, rfl⟩
    · exact .inl ⟨_, _, _, rfl⟩

theorem step_lost {g : Goroutine} {w : World} (h : Lost g) : (∃ o w', step P (solo g w) = .ended o w') ∨ ∃ g' w', step P (solo g w) = .next (solo g' w') ∧ Lost g' := by
  have idle : (g.status = .blocked ∨ g.status = .waiting) → (∃ o w', step P (solo g w) = .ended o w') ∨ ∃ g' w', step P (solo g w) = .next (solo g' w') ∧ Lost g' := by
    intro hs
    have hr : g.canRun w.os.mono = false := by unfold Goroutine.canRun; rcases hs with hs | hs <;> rw [hs]
    rcases hs with hs | hs
    · have hm : ∃ o w', move P (solo g w) = .machine (.ended o w') := by
        simp [move, ask, askOn, solo, runnable_eq, due, ahead, hr, hs, List.range_succ, pure, Sem.run]
        split <;> exact ⟨_, _, rfl⟩
      obtain ⟨o, w', hm⟩ := hm
      exact .inl ⟨o, w', by rw [step, stepT, hm]⟩
    · have hm : move P (solo g w) = .machine (.next (solo g w)) := by
        simp [move, ask, askOn, solo, runnable_eq, due, ahead, hr, hs, List.range_succ, pure, Sem.run]
      exact .inr ⟨g, w, by rw [step, stepT, hm], .inr (.inl hs)⟩
  rcases h with h | h | ⟨hs, d, f, hd, hc, hf⟩
  · exact idle (.inl h)
  · exact idle (.inr h)
  · have e : stepG P true g w = writeOn P g.frame d f w := by
      obtain ⟨fr, cs, st, dy, off⟩ := g
      obtain ⟨td, tx, cl, pe, re, ha, fa⟩ := d
      simp only at hd hc hf
      subst hd hc hf
      simp only [stepG, die]
    rcases writeOn_lost (P := P) (fr := g.frame) (f := f) (w := w) hc with ⟨o, w', es, h⟩ | ⟨g', w', es, h, hl⟩
    · exact .inl ⟨o, w', step_solo_ended hs (e.trans h)⟩
    · exact .inr ⟨g', w', step_solo_go hs (e.trans h), hl⟩

theorem runN_lost : ∀ (n : Nat) {g : Goroutine} {w : World} {m : Machine}, Lost g → runN P n (solo g w) = .next m → ∃ g' w', m = solo g' w' ∧ Lost g'
  | 0, g, w, m, h, e => by simp only [runN, Stepped.next.injEq] at e; exact ⟨g, w, e.symm, h⟩
  | n + 1, g, w, m, h, e => by
    rcases step_lost (P := P) (w := w) h with ⟨o, w', hs⟩ | ⟨g', w', hs, hl⟩
    · simp only [runN, hs] at e; cases e
    · simp only [runN, hs] at e; exact runN_lost n hl e

theorem not_lost_G (fr : Frame) (cs : List Frame) : ¬ Lost (G fr cs) := by
  rintro (h | h | ⟨_, d, f, h, _⟩) <;> cases h

theorem G_inj {fr fr' : Frame} {cs cs' : List Frame} (h : G fr cs = G fr' cs') : fr = fr' ∧ cs = cs' := by
  simp only [G, Goroutine.mk.injEq] at h; exact ⟨h.1, h.2.1⟩
theorem solo_inj {a b : Goroutine} {w w' : World} (h : solo a w = solo b w') : a = b ∧ w = w' := by
  simp only [solo, Machine.mk.injEq] at h
  exact ⟨by simpa using h.2.1, h.1⟩

/-- A frame that ends whatever comes back to it. -/
def trap (P : Program) : Frame := { fn := P.funcs.size, tmps := #[], todo := [.code (.refuse "")], defers := [{ target := .fn (.func P.funcs.size) #[], args := #[] }], mode := .run, kind := .normal }

theorem trap_run (w : World) : ∃ o w' es, stepG P true (G (trap P) []) w = .ended o w' es := ⟨_, _, _, by simp only [stepG, G, trap, stepG.exec]; rfl⟩
theorem trap_raise (chain : List PanicEntry) (w : World) : ∃ o w' es, stepG P true (G ((trap P).raise chain) []) w = .ended o w' es := by
  have e : (trap P).raise chain = { trap P with mode := .panicking chain } := rfl
  have hs : (invoke (.fn (.func P.funcs.size) #[]) #[]).runT P w #[] = (.halt (.stuck "call: no such function") w, #[]) := by
    have h0 : P.funcs[P.funcs.size]? = none := by simp
    show (match P.funcs[P.funcs.size]? with | none => _ | some fn => _ : Sem Next).runT P w #[] = _
    rw [h0]
    rfl
  rw [e]
  simp only [stepG, G, unwind, trap, callDeferred, hs, GStep.after]
  exact ⟨_, _, _, rfl⟩

/-- The base frame, at its end: whoever comes back to the trap comes no farther. -/
theorem base_trapped (hP : Tight P Z plain ok) {fr : Frame} (hS : StackOk Z plain fr []) (hb : AtBase fr []) {n : Nat} {w w' : World} {fr' : Frame} (h : runN P (n + 1) (solo (G fr [trap P]) w) = .next (solo (G fr' [trap P]) w')) : False := by
  have hT := hS.top
  obtain ⟨_, hd, hr⟩ := hb
  have hk : fr.kind = .normal := hS.2
  obtain ⟨fn, hfn, _⟩ := hP.there fr.fn hT.fn
  have hu : stepG P true (G fr [trap P]) w = unwind P true fr [trap P] none w := by
    have := own_unwind (P := P) (fs := [trap P]) (fun h => hr h) w []
    simpa [own] using this
  -- behind the step stands the trap, alone
  have next : ∀ y es w₁, stepG P true (G fr [trap P]) w = .go (G y []) w₁ es → (∃ o w' es, stepG P true (G y []) w₁ = .ended o w' es) → False := by
    intro y es w₁ e ⟨o, w₂, es₂, e₂⟩
    simp only [runN, step_solo_go (P := P) (a := G fr [trap P]) rfl e] at h
    cases n with
    | zero =>
      simp only [runN, Stepped.next.injEq] at h
      have := (G_inj (solo_inj h).1).2
      cases this
    | succ n => simp only [runN, step_solo_ended (P := P) (a := G y []) rfl e₂] at h; cases h
  have ended : ∀ o w₁ es, stepG P true (G fr [trap P]) w = .ended o w₁ es → False := by
    intro o w₁ es e
    simp only [runN, step_solo_ended (P := P) (a := G fr [trap P]) rfl e] at h
    cases h
  cases hm : fr.mode with
  | run => exact hr hm
  | panicking chain =>
    refine next ((trap P).raise chain) #[] w ?_ (trap_raise chain w)
    rw [hu]
    unfold unwind
    simp only [hd, hm, Frame.catches, hfn, Bool.false_eq_true, if_false, G]
  | returning =>
    have e : stepG P true (G fr [trap P]) w = (let (q, es) := (results fn fr.tmps).runT P w #[]
          GStep.after (seen P fr.fn es) (match q with
            | .ok v w => doReturn P true fr [trap P] none v w
            | .halt (.stuck s) w => .ended (.stuck s (fr.pos P)) w
            | .halt _ w => .ended (.stuck "return: the result variables cannot be read" (fr.pos P)) w)) := by
      rw [hu]
      unfold unwind
      simp only [hd, hm, hfn]
      rfl
    generalize (results fn fr.tmps).runT P w #[] = q at e
    obtain ⟨q, es⟩ := q
    cases q with
    | ok v w₁ =>
      simp only [doReturn, hk, GStep.after, Array.append_empty] at e
      exact next ((trap P).finish v) _ w₁ e (trap_run w₁)
    | halt hh w₁ =>
      simp only at e
      cases hh with
      | stuck s => exact ended _ _ _ e
      | _ => exact ended _ _ _ e

theorem path_of_run (hP : Tight P Z plain ok) : ∀ (n : Nat) {fr fr' : Frame} {fs : List Frame} {w w' : World}, StackOk Z plain fr fs → runN P n (solo (G fr (fs ++ [trap P])) w) = .next (solo (G fr' [trap P]) w') → SPath P fr fs w fr' [] w' := by
  intro n
  induction n with
  | zero =>
    intro fr fr' fs w w' hS h
    simp only [runN, Stepped.next.injEq] at h
    obtain ⟨h1, rfl⟩ := solo_inj h
    obtain ⟨rfl, h2⟩ := G_inj h1
    have : fs = [] := by
      have := congrArg List.length h2
      simp at this
      exact this
    subst this
    exact .refl _ _ _
  | succ n ih =>
    intro fr fr' fs w w' hS h
    by_cases hb : AtBase fr fs
    · obtain rfl := hb.1
      exact (base_trapped hP hS hb h).elim
    · rcases stepping hP hS hb w with ⟨k, fr₁, fs₁, w₁, es, hS₁, _, _, _, hst⟩ | ⟨k, hdead⟩
      · have h0 := fun cs => hst cs w.tape w.drawn (Agree.self w k)
        have e0 : tw w₁ w.tape (w.drawn + k) = w₁ := by
          rename_i ht hd
          rw [← ht, ← hd]; rfl
        simp only [tw_self, e0] at h0
        have h1 := h0 [trap P]
        simp only [runN, step_solo_go (P := P) (a := G fr (fs ++ [trap P])) rfl h1] at h
        exact .step h0 (ih hS₁ h)
      · have hd := hdead [trap P] w.tape w.drawn (Agree.self w k)
        simp only [tw_self] at hd
        rcases hd with ⟨o, w₁, es, e⟩ | ⟨g, w₁, es, e, hl⟩
        · simp only [runN, step_solo_ended (P := P) (a := G fr (fs ++ [trap P])) rfl e] at h; cases h
        · simp only [runN, step_solo_go (P := P) (a := G fr (fs ++ [trap P])) rfl e] at h
          obtain ⟨g', w₂, e', hl'⟩ := runN_lost n hl h
          rw [← (solo_inj e').1] at hl'
          exact absurd hl' (not_lost_G _ _)
end
end Go.Proofs.Ythpanpedoeghoaa.Lift
set_option linter.unusedVariables false
set_option linter.unusedSimpArgs false
namespace Go.Proofs.Ythpanpedoeghoaa.Lift
open Go.Conc

section
variable {P : Program} {Z : Zone} {plain : Op → Bool} {ok : Mark → Prop} {Stop : Frame → World → Prop}

/-- Every path of own steps, somebody else drawing between them, comes to the stop. -/
inductive Bar (P : Program) (ok : Mark → Prop) (Stop : Frame → World → Prop) : Frame → List Frame → World → Prop
  | stop {fr : Frame} {w : World} (h : Stop fr w) : Bar P ok Stop fr [] w
  | step {fr : Frame} {fs : List Frame} {w : World} (fr' : (Nat → Question → Nat) → Nat → Frame) (fs' : (Nat → Question → Nat) → Nat → List Frame) (w' : (Nat → Question → Nat) → Nat → World) (es : (Nat → Question → Nat) → Nat → Array Event)
      (he : ∀ T d, ∀ e ∈ es T d, EvOk ok e) (h : ∀ T d cs, own P fr fs (tw w T d) cs = .go (G (fr' T d) (fs' T d ++ cs)) (w' T d) (es T d)) (h' : ∀ T d, Bar P ok Stop (fr' T d) (fs' T d) (w' T d)) : Bar P ok Stop fr fs w

theorem Bar.of_step {fr : Frame} {fs : List Frame} {w : World} (h : ∀ T d, ∃ fr' fs' w' es, (∀ e ∈ es, EvOk ok e) ∧ (∀ cs, own P fr fs (tw w T d) cs = .go (G fr' (fs' ++ cs)) w' es) ∧ Bar P ok Stop fr' fs' w') : Bar P ok Stop fr fs w := by
  have h2 : ∀ x : (Nat → Question → Nat) × Nat, ∃ y : Frame × List Frame × World × Array Event, (∀ e ∈ y.2.2.2, EvOk ok e) ∧ (∀ cs, own P fr fs (tw w x.1 x.2) cs = .go (G y.1 (y.2.1 ++ cs)) y.2.2.1 y.2.2.2) ∧ Bar P ok Stop y.1 y.2.1 y.2.2.1 := fun x => by
    obtain ⟨a, b, c, d, e⟩ := h x.1 x.2
    exact ⟨(a, b, c, d), e⟩
  obtain ⟨f, hf⟩ := Classical.axiomOfChoice h2
  exact .step (fun T d => (f (T, d)).1) (fun T d => (f (T, d)).2.1) (fun T d => (f (T, d)).2.2.1) (fun T d => (f (T, d)).2.2.2) (fun T d => (hf (T, d)).1) (fun T d => (hf (T, d)).2.1) (fun T d => (hf (T, d)).2.2)

/-- On every tape a path leads to the stop. -/
def Always (P : Program) (Stop : Frame → World → Prop) (fr : Frame) (fs : List Frame) (w : World) : Prop := ∀ T d, ∃ fr' w', SPath P fr fs (tw w T d) fr' [] w' ∧ Stop fr' w'

theorem base_step (hP : Tight P Z plain ok) {fr : Frame} (hS : StackOk Z plain fr []) (hb : AtBase fr []) (w : World) (c : Frame) :
    (∃ o w' es, own P fr [] w [c] = .ended o w' es) ∨ ∃ y w' es, own P fr [] w [c] = .go (G y []) w' es := by
  have hT := hS.top
  obtain ⟨_, hd, hr⟩ := hb
  have hk : fr.kind = .normal := hS.2
  obtain ⟨fn, hfn, _⟩ := hP.there fr.fn hT.fn
  rw [own_unwind (fun h => hr h)]
  unfold unwind
  cases hm : fr.mode with
  | run => exact absurd hm (fun h => hr h)
  | panicking chain => exact .inr ⟨c.raise chain, w, #[], by simp only [hd, Frame.catches, hfn, Bool.false_eq_true, if_false, G, List.nil_append]⟩
  | returning =>
    simp only [hd, hfn, List.nil_append]
    generalize (results fn fr.tmps).runT P w #[] = q
    obtain ⟨q, es⟩ := q
    cases q with
    | ok v w₁ => exact .inr ⟨c.finish v, w₁, _, by simp only [doReturn, hk, GStep.after, G]; rfl⟩
    | halt hh w₁ => cases hh <;> exact .inl ⟨_, _, _, rfl⟩

theorem go_inj {fr fr' : Frame} {cs cs' : List Frame} {w w' : World} {es es' : Array Event} (h : GStep.go (G fr cs) w es = .go (G fr' cs') w' es') : fr = fr' ∧ cs = cs' ∧ w = w' ∧ es = es' := by
  simp only [GStep.go.injEq] at h
  obtain ⟨h1, h2, h3⟩ := h
  obtain ⟨h4, h5⟩ := G_inj h1
  exact ⟨h4, h5, h2, h3⟩

/-- Where an own step leads on, the step is as the zone says. -/
theorem stepping_on (hP : Tight P Z plain ok) {fr fr' : Frame} {fs fs' : List Frame} {w w' : World} {es : Array Event} (hS : StackOk Z plain fr fs) (h : ∀ cs, own P fr fs w cs = .go (G fr' (fs' ++ cs)) w' es) :
    ∃ k, StackOk Z plain fr' fs' ∧ (∀ e ∈ es, EvOk ok e) ∧ w'.tape = w.tape ∧ w'.drawn = w.drawn + k ∧ ∀ cs T d, Agree w T d k → own P fr fs (tw w T d) cs = .go (G fr' (fs' ++ cs)) (tw w' T (d + k)) es := by
  have hb : ¬ AtBase fr fs := by
    intro hb
    obtain rfl := hb.1
    have h1 := h [trap P]
    rcases base_step hP hS hb w (trap P) with ⟨o, w₁, es₁, e⟩ | ⟨y, w₁, es₁, e⟩
    · rw [e] at h1; cases h1
    · rw [e] at h1
      have := (go_inj h1).2.1
      simp at this
  rcases stepping hP hS hb w with ⟨k, fr₁, fs₁, w₁, es₁, a, b, c, d, e⟩ | ⟨k, hdead⟩
  · have e0 := e [] w.tape w.drawn (Agree.self w k)
    have e1 : tw w₁ w.tape (w.drawn + k) = w₁ := by rw [← c, ← d]; rfl
    rw [tw_self, e1, h []] at e0
    obtain ⟨rfl, h2, rfl, rfl⟩ := go_inj e0
    simp only [List.append_nil] at h2
    subst h2
    exact ⟨k, a, b, c, d, e⟩
  · have := hdead [] w.tape w.drawn (Agree.self w k)
    rw [tw_self, h []] at this
    rcases this with ⟨o, w₁, es₁, e⟩ | ⟨g, w₁, es₁, e, hl⟩
    · cases e
    · simp only [GStep.go.injEq] at e
      obtain ⟨rfl, _⟩ := e
      exact absurd hl (not_lost_G _ _)

/-- Another tape with the same answers to come. -/
theorem SPath.shift (hP : Tight P Z plain ok) {fr a : Frame} {fs ls : List Frame} {w v : World} (h : SPath P fr fs w a ls v) : StackOk Z plain fr fs → ∀ T d, (∀ i, T (d + i) = w.tape (w.drawn + i)) → ∃ d', SPath P fr fs (tw w T d) a ls (tw v T d') := by
  induction h with
  | refl fr fs w => exact fun _ T d _ => ⟨d, .refl _ _ _⟩
  | @step fr fr' fr'' fs fs' fs'' w w' w'' es h _ ih =>
    intro hS T d hT
    obtain ⟨k, hS', _, h1, h2, h3⟩ := stepping_on hP hS h
    obtain ⟨d', hp⟩ := ih hS' T (d + k) (fun i => by rw [h1, h2, Nat.add_assoc, Nat.add_assoc]; exact hT (k + i))
    exact ⟨d', .step (fun cs => h3 cs T d (fun i _ => hT i)) hp⟩

theorem SPath.on {fr a : Frame} {fs : List Frame} {w v : World} (h : SPath P fr fs w a [] v) : (fr = a ∧ fs = [] ∧ w = v) ∨ ∃ fr' fs' w' es, (∀ cs, own P fr fs w cs = .go (G fr' (fs' ++ cs)) w' es) ∧ SPath P fr' fs' w' a [] v := by
  cases h with
  | refl => exact .inl ⟨rfl, rfl, rfl⟩
  | step h h' => exact .inr ⟨_, _, _, _, h, h'⟩

/-- A state of a bad path: where it stands, how much has been drawn, the answers so far. -/
structure St where
  fr : Frame
  fs : List Frame
  w : World
  p : Nat
  T : Nat → Question → Nat

variable (P Z plain ok Stop) in
def St.Bad (s : St) : Prop := StackOk Z plain s.fr s.fs ∧ Always P Stop s.fr s.fs s.w ∧ ¬ Bar P ok Stop s.fr s.fs s.w

theorem bad_next (hP : Tight P Z plain ok) (hStop : ∀ fr w T d, Stop fr w → Stop fr (tw w T d)) (s : St) (hs : s.Bad P Z plain ok Stop) :
    ∃ s' : St, s'.Bad P Z plain ok Stop ∧ s.p ≤ s'.p ∧ (∀ i, i < s.p → s'.T i = s.T i) ∧
      ∃ es, ∀ T cs, (∀ i, s.p ≤ i → i < s'.p → T i = s'.T i) → own P s.fr s.fs (tw s.w T s.p) cs = .go (G s'.fr (s'.fs ++ cs)) (tw s'.w T s'.p) es := by
  obtain ⟨hS, hC, hB⟩ := hs
  have notStop : ∀ T d, ¬ (s.fs = [] ∧ Stop s.fr (tw s.w T d)) := by
    rintro T d ⟨h1, h2⟩
    apply hB
    have := hStop _ _ s.w.tape s.w.drawn h2
    rw [tw_tw, tw_self] at this
    rw [h1]
    exact .stop this
  -- on every tape an own step leads on
  have on : ∀ T d, ∃ fr' fs' w' es, (∀ cs, own P s.fr s.fs (tw s.w T d) cs = .go (G fr' (fs' ++ cs)) w' es) ∧ ∃ a v, SPath P fr' fs' w' a [] v ∧ Stop a v := by
    intro T d
    obtain ⟨a, v, hp, hst⟩ := hC T d
    rcases hp.on with ⟨rfl, h2, rfl⟩ | ⟨fr', fs', w', es, h, h'⟩
    · exact absurd ⟨h2, hst⟩ (notStop T d)
    · exact ⟨fr', fs', w', es, h, a, v, h', hst⟩
  -- one of them leads to no bar
  have : ∃ T d, ∀ fr' fs' w' es, (∀ cs, own P s.fr s.fs (tw s.w T d) cs = .go (G fr' (fs' ++ cs)) w' es) → ¬ Bar P ok Stop fr' fs' w' := by
    apply Classical.byContradiction
    intro hno
    apply hB
    refine Bar.of_step fun T d => ?_
    obtain ⟨fr', fs', w', es, h, _⟩ := on T d
    obtain ⟨_, _, hev, _⟩ := stepping_on hP hS h
    refine ⟨fr', fs', w', es, hev, h, ?_⟩
    apply Classical.byContradiction
    intro hnb
    refine hno ⟨T, d, fun fr'' fs'' w'' es'' h'' hb => hnb ?_⟩
    have e := (h []).symm.trans (h'' [])
    obtain ⟨rfl, h2, rfl, rfl⟩ := go_inj e
    simp only [List.append_nil] at h2
    subst h2
    exact hb
  obtain ⟨T, d, hbad⟩ := this
  obtain ⟨fr', fs', w', es, h, _⟩ := on T d
  obtain ⟨k, hS', hev, h1, h2, h3⟩ := stepping_on hP hS h
  simp only [tw_tape, tw_drawn, tw_tw] at h1 h2 h3
  refine ⟨⟨fr', fs', w', s.p + k, fun i => if i < s.p then s.T i else T (d + (i - s.p))⟩, ⟨hS', fun T₂ d₂ => ?_, hbad fr' fs' w' es h⟩, Nat.le_add_right _ _, fun i hi => by simp [hi], es, fun T' cs hT' => ?_⟩
  · -- the glued tape: first the answers of the bad step, then T₂
    let T₃ : Nat → Question → Nat := fun i => if i < k then T (d + i) else T₂ (d₂ + (i - k))
    have hA : Agree (tw s.w T d) T₃ 0 k := fun i hi => by simp [T₃, hi]
    obtain ⟨fr₁, fs₁, w₁, es₁, g, a, v, hp, hst⟩ := on T₃ 0
    have e := (g []).symm.trans (h3 [] T₃ 0 hA)
    obtain ⟨rfl, e2, rfl, rfl⟩ := go_inj e
    simp only [List.append_nil] at e2
    subst e2
    obtain ⟨d', hp'⟩ := hp.shift hP hS' T₂ d₂ (fun i => by
      have : ¬ (0 + k + i < k) := by omega
      simp only [tw_tape, tw_drawn, T₃, this, if_false]
      congr 1; omega)
    rw [tw_tw] at hp'
    exact ⟨a, _, hp', hStop _ _ _ _ hst⟩
  · refine h3 cs T' s.p fun i hi => ?_
    have := hT' (s.p + i) (by omega) (by simp only; omega)
    simp only at this
    rw [this]
    have : ¬ s.p + i < s.p := by omega
    simp [this]

open Classical in
theorem bar_of_always (hP : Tight P Z plain ok) (hStop : ∀ fr w T d, Stop fr w → Stop fr (tw w T d)) {fr : Frame} {fs : List Frame} {w : World} (hS : StackOk Z plain fr fs) (hC : Always P Stop fr fs w) : Bar P ok Stop fr fs w := by
  apply Classical.byContradiction
  intro hB
  have step : ∀ x : { s : St // s.Bad P Z plain ok Stop }, ∃ y : { s : St // s.Bad P Z plain ok Stop }, x.1.p ≤ y.1.p ∧ (∀ i, i < x.1.p → y.1.T i = x.1.T i) ∧
      ∃ es, ∀ T cs, (∀ i, x.1.p ≤ i → i < y.1.p → T i = y.1.T i) → own P x.1.fr x.1.fs (tw x.1.w T x.1.p) cs = .go (G y.1.fr (y.1.fs ++ cs)) (tw y.1.w T y.1.p) es := fun x => by
    obtain ⟨s', h1, h2⟩ := bad_next hP hStop x.1 x.2
    exact ⟨⟨s', h1⟩, h2⟩
  obtain ⟨nx, hnx⟩ := Classical.axiomOfChoice step
  let s0 : { s : St // s.Bad P Z plain ok Stop } := ⟨⟨fr, fs, w, 0, fun _ _ => 0⟩, hS, hC, hB⟩
  let q : Nat → { s : St // s.Bad P Z plain ok Stop } := fun n => Nat.rec s0 (fun _ x => nx x) n
  have hq : ∀ n, q (n + 1) = nx (q n) := fun _ => rfl
  have mono : ∀ n m, n ≤ m → (q n).1.p ≤ (q m).1.p ∧ ∀ i, i < (q n).1.p → (q m).1.T i = (q n).1.T i := by
    intro n m h
    induction h with
    | refl => exact ⟨Nat.le_refl _, fun _ _ => rfl⟩
    | @step m _ ih =>
      obtain ⟨a, b, _⟩ := hnx (q m)
      refine ⟨Nat.le_trans ih.1 (hq m ▸ a), fun i hi => ?_⟩
      rw [hq m, b i (Nat.lt_of_lt_of_le hi ih.1)]
      exact ih.2 i hi
  -- the answers of the whole path
  let W : Nat → Question → Nat := fun i => if h : ∃ n, i < (q n).1.p then (q h.choose).1.T i else fun _ => 0
  have hW : ∀ n i, i < (q n).1.p → W i = (q n).1.T i := by
    intro n i hi
    have h : ∃ n, i < (q n).1.p := ⟨n, hi⟩
    have e : W i = (q h.choose).1.T i := by simp only [W, dif_pos h]
    rw [e]
    rcases Nat.le_total n h.choose with hle | hle
    · exact (mono _ _ hle).2 i hi
    · exact ((mono _ _ hle).2 i h.choose_spec).symm
  have go : ∀ n, ∃ es, ∀ cs, own P (q n).1.fr (q n).1.fs (tw (q n).1.w W (q n).1.p) cs = .go (G (q (n + 1)).1.fr ((q (n + 1)).1.fs ++ cs)) (tw (q (n + 1)).1.w W (q (n + 1)).1.p) es := by
    intro n
    obtain ⟨_, _, es, h⟩ := hnx (q n)
    exact ⟨es, fun cs => h W cs fun i _ hi => by rw [← hq n] at hi ⊢; exact hW (n + 1) i hi⟩
  have follow : ∀ {a : Frame} {b : List Frame} {x v : World} {c : Frame} {l : List Frame}, SPath P a b x c l v → l = [] → ∀ n, a = (q n).1.fr → b = (q n).1.fs → x = tw (q n).1.w W (q n).1.p →
      ∃ m, c = (q m).1.fr ∧ (q m).1.fs = [] ∧ v = tw (q m).1.w W (q m).1.p := by
    intro a b x v c l h
    induction h with
    | refl a b x => exact fun hl n e1 e2 e3 => ⟨n, e1, by rw [← e2, hl], e3⟩
    | step g _ ih =>
      intro hl n e1 e2 e3
      obtain ⟨es, hg⟩ := go n
      subst e1 e2 e3
      have e := (g []).symm.trans (hg [])
      obtain ⟨rfl, e2, rfl, rfl⟩ := go_inj e
      simp only [List.append_nil] at e2
      exact ih hl (n + 1) rfl e2 rfl
  obtain ⟨a, v, hp, hst⟩ := hC W 0
  obtain ⟨m, rfl, h2, rfl⟩ := follow hp rfl 0 rfl rfl rfl
  refine (q m).2.2.2 ?_
  have := hStop _ _ (q m).1.w.tape (q m).1.w.drawn hst
  rw [tw_tw, tw_self] at this
  rw [h2]
  exact .stop this
end
end Go.Proofs.Ythpanpedoeghoaa.Lift
set_option linter.unusedVariables false
set_option linter.unusedSimpArgs false
namespace Go.Proofs.Ythpanpedoeghoaa.Lift
open Go.Conc
open Go.ConcN (sumTo upd sumTo_upd upd_ne upd_same)
open Go.ConcR (deafBehind_cons deafBehind_one)

/-- What is held of the trace: no data race; goroutine 0 knows every touch of memory; all that others did is handed over. -/
structure Past0 (t : Trace) : Prop where
  clean : ∀ said, ¬ Race said t
  known : ∀ i a, touchAt t i = some a → a.loc.isMemory = true → Knows t 0 i
  over : t.HandedOver

theorem Past0.app0 {t u : Trace} (h : Past0 t) (hu : ∀ op ∈ u, op.g = 0) : Past0 (t ++ u) := by
  refine ⟨fun said => noRace_append (h.clean said) hu fun i a ha op hop b hb hc => h.known i a ha hc.2.1, fun i a ha hm => ?_, handedOver_app h.over fun op hop => .inl (hu op hop)⟩
  obtain ⟨x, hx, hxa⟩ := touch_of ha
  rcases getElem?_append_cases hx with ⟨_, hx'⟩ | ⟨_, hxu⟩
  · exact (h.known i a (by rw [touchAt_of hx']; exact hxa) hm).app u
  · have := knows_own hx
    rwa [hu x hxu] at this

theorem Past0.appMute {t u : Trace} {g : Nat} (h : Past0 t) (hu : ∀ op ∈ u, op.g = g) (hn : ∀ op ∈ u, op.act.touch? = none) : Past0 (t ++ u) := by
  refine ⟨fun said => noRace_append (h.clean said) hu fun i a _ op hop b hb _ => (by rw [hn op hop] at hb; cases hb), fun i a ha hm => ?_, handedOver_app h.over fun op hop => .inr (hn op hop)⟩
  obtain ⟨x, hx, hxa⟩ := touch_of ha
  rcases getElem?_append_cases hx with ⟨_, hx'⟩ | ⟨_, hxu⟩
  · exact (h.known i a (by rw [touchAt_of hx']; exact hxa) hm).app u
  · rw [hn x hxu] at hxa; cases hxa

theorem Past0.own {t : Trace} (h : Past0 t) (fn : FuncId) (pos : String) (es : Array Event) : Past0 (t ++ MemOp.ofEvents 0 fn pos es) :=
  h.app0 fun op hop => by obtain ⟨e, _, rfl⟩ := Go.Conc.mem_ofEvents hop; rfl
theorem Past0.mute {t : Trace} (h : Past0 t) (g : Nat) (fn : FuncId) (pos : String) {es : Array Event} (hm : ∀ e ∈ es, e.mute = true) : Past0 (t ++ MemOp.ofEvents g fn pos es) :=
  h.appMute (fun op hop => by obtain ⟨e, _, rfl⟩ := Go.Conc.mem_ofEvents hop; rfl) (fun op hop => by obtain ⟨e, he, rfl⟩ := Go.Conc.mem_ofEvents hop; exact touch_mute (hm e he))

theorem deafBehind_zero {es : Array Event} (h : ∀ e ∈ es, e.loc ≠ .mark .disable) : deafBehind 0 es = 0 := by
  obtain ⟨l⟩ := es
  induction l with
  | nil => rfl
  | cons e l ih =>
    rw [deafBehind_cons]
    have : deafBehind 0 #[e] = 0 := by
      have h0 := h e (by simp)
      unfold deafBehind
      simp only [List.size_toArray, List.length_cons, List.length_nil, List.foldl_toArray', List.foldl_cons, List.foldl_nil]
      split
      · rename_i hl; exact absurd hl h0
      · rfl
      · rfl
    rw [this]
    exact ih fun x hx => h x (by simp at hx ⊢; exact .inr hx)

section
variable {P : Program} {ok : Mark → Prop} {Stop : Frame → World → Prop}

theorem Bar.tw {fr : Frame} {fs : List Frame} {w : World} (hStop : ∀ fr w T d, Stop fr w → Stop fr (Lift.tw w T d)) (h : Bar P ok Stop fr fs w) (T : Nat → Question → Nat) (d : Nat) : Bar P ok Stop fr fs (Lift.tw w T d) := by
  cases h with
  | stop h => exact .stop (hStop _ _ _ _ h)
  | step a b c e he h h' => exact .step a b c e he (fun T' d' cs => by rw [tw_tw]; exact h T' d' cs) h'

theorem bar_running {fr : Frame} {cs : List Frame} : (G fr cs).status = .running := rfl

theorem size_pos_of {gs : Array Goroutine} {a : Goroutine} (h : gs[0]? = some a) : 0 < gs.size := (Array.getElem?_eq_some_iff.1 h).1

/-- Goroutine 0 takes a step. -/
theorem leavers_own {gs : Array Goroutine} {t : Trace} {q : Nat → Nat} {a g g' : Goroutine} {w' : World} {u : Trace} (hL : Leavers P t gs q) (h0 : gs[0]? = some a) (hu : ∀ op ∈ u, op.g = 0) :
    Leavers P (t ++ u) ((gs.map (woken P g g' w')).setIfInBounds 0 g') q :=
  ⟨fun j x hj hx => by
    have hne : 0 ≠ j := by omega
    rw [Array.getElem?_setIfInBounds_ne hne, Array.getElem?_map] at hx
    obtain ⟨y, hy, rfl⟩ := Option.map_eq_some_iff.1 hx
    have hq := hL.old j y hj hy
    rw [woken_quitsD hq, Deaf_other t (by omega) _ hu]
    exact hq, fun j hj => by
    have := size_pos_of h0
    rw [Deaf_other t (g' := 0) (by simp at hj; omega) _ hu]
    exact hL.above j (by simpa using hj)⟩

/-- A leaver slips: what it does. -/
theorem leaver_slip {gs : Array Goroutine} {t : Trace} {q : Nat → Nat} {w : World} {sl : Option (Nat × Nat)} {i : Nat} {g a : Goroutine} (hL : Leavers P t gs q) (hpos : 0 < i) (hi : gs[i]? = some g) (hg : g.status = .running) (h0 : gs[0]? = some a) (hrun : a.status = .running) (hP : Past0 t) :
    ∃ gs' q' ops, runT P (crowd gs w sl) i = (.next (crowd gs' w sl), ops) ∧ gs'.size = gs.size ∧ gs'[0]? = some a ∧ Leavers P (t ++ ops) gs' q' ∧ Past0 (t ++ ops) ∧ sumTo gs.size q' < sumTo gs.size q ∧ (∀ op ∈ ops, op.g = i) := by
  have hq := hL.old i g hpos hi
  have hi0 : (i == 0) = false := by simp; omega
  have hlt : i < gs.size := (Array.getElem?_eq_some_iff.1 hi).1
  cases hqi : q i with
  | zero => rw [hqi] at hq; rw [hq.1] at hg; cases hg
  | succ k =>
    rw [hqi] at hq
    rcases hq with ⟨hf, _⟩ | ⟨_, g', es, hm, hstp, hq'⟩
    · rw [hf] at hg; cases hg
    have hrunT := runT_crowd_go (P := P) (w := w) (sl := sl) (i := i) hi (by rw [hi0]; exact hstp w)
    have hsum : sumTo gs.size (upd q i k) + (k + 1) = sumTo gs.size q + k := by
      have := sumTo_upd q k id hlt
      simpa [hqi] using this
    have hops : ∀ op ∈ MemOp.ofEvents i g.frame.fn g.frame.place es, op.g = i := fun op hop => by obtain ⟨e, _, rfl⟩ := Go.Conc.mem_ofEvents hop; rfl
    refine ⟨_, upd q i k, _, hrunT, by simp, ?_, ⟨fun j x hj hx => ?_, fun j hj => ?_⟩, hP.mute i _ _ hm, by omega, hops⟩
    · have hne : i ≠ 0 := by omega
      rw [Array.getElem?_setIfInBounds_ne hne, Array.getElem?_map, h0]
      simp [woken_run hrun]
    · by_cases hji : i = j
      · subst hji
        rw [Array.getElem?_setIfInBounds_self_of_lt (by simpa using hlt)] at hx
        obtain rfl := Option.some.inj hx
        rw [upd_same, Deaf_own]
        exact hq'
      · rw [Array.getElem?_setIfInBounds_ne hji, Array.getElem?_map] at hx
        obtain ⟨y, hy, rfl⟩ := Option.map_eq_some_iff.1 hx
        have hqj := hL.old j y hj hy
        rw [woken_quitsD hqj, upd_ne q k (Ne.symm hji), Deaf_other t hji _ hops]
        exact hqj
    · rw [Deaf_other t (g' := i) (by simp at hj; omega) _ hops]
      exact hL.above j (by simpa using hj)

theorem crowd_awake {gs : Array Goroutine} {t : Trace} {q : Nat → Nat} {a : Goroutine} (hL : Leavers P t gs q) (h0 : gs[0]? = some a) (hrun : a.status = .running) : ∀ g ∈ gs, awake g := by
  intro g hg
  obtain ⟨i, hi, rfl⟩ := Array.mem_iff_getElem.1 hg
  rcases Nat.eq_zero_or_pos i with rfl | hpos
  · have : gs[0] = a := by simpa [Array.getElem?_eq_getElem hi] using h0
    rw [this]; exact awake_of (.inl hrun)
  · exact awake_of ((hL.old i _ hpos (Array.getElem?_eq_getElem hi)).status.elim .inl fun x => .inr (.inr x))

/-- ████ THE WALK BESIDE LEAVERS, OUT OF A CONTRACT. ████ -/
theorem crowd_bar {fr : Frame} {fs : List Frame} {w : World} (hB : Bar P ok Stop fr fs w) :
    ∀ (w₁ : World), (∃ T d, w₁ = Lift.tw w T d ∧ ∀ fr', Stop fr' w → Stop fr' w₁) → ∀ (gs : Array Goroutine) (sl : Option (Nat × Nat)) (t : Trace) (q : Nat → Nat) (cs : List Frame), gs[0]? = some (G fr (fs ++ cs)) → Leavers P t gs q → Past0 t →
      ∃ (N : Nat) (gs' : Array Goroutine) (fr' : Frame) (w' : World) (sl' : Option (Nat × Nat)) (u : Trace) (q' : Nat → Nat),
        runNT P N (crowd gs w₁ sl) t = (.next (crowd gs' w' sl'), t ++ u) ∧ gs'.size = gs.size ∧ gs'[0]? = some (G fr' cs) ∧ Stop fr' w' ∧ Leavers P (t ++ u) gs' q' ∧ Past0 (t ++ u) ∧ ((∀ m, ok m → m ≠ .disable) → Deaf t 0 = 0 → Deaf (t ++ u) 0 = 0) := by
  induction hB with
  | stop h =>
    rintro w₁ ⟨T, d, rfl, hst⟩ gs sl t q cs h0 hL hP
    exact ⟨0, gs, _, _, sl, #[], q, by simp [runNT], rfl, h0, hst _ h, by simpa using hL, by simpa using hP, fun _ hd => by simpa using hd⟩
  | @step fr fs w fr' fs' w' es he h h' ih =>
    have ownCase : ∀ (T : Nat → Question → Nat) (d d' : Nat) (gs : Array Goroutine) (sl sl' : Option (Nat × Nat)) (t : Trace) (q : Nat → Nat) (cs : List Frame), gs[0]? = some (G fr (fs ++ cs)) → Leavers P t gs q → Past0 t →
        stepT P (crowd gs (Lift.tw w T d) sl) = runT P (crowd gs ((Lift.tw w T d).at d') sl') 0 →
        ∃ (N : Nat) (gs' : Array Goroutine) (fr' : Frame) (w' : World) (sl' : Option (Nat × Nat)) (u : Trace) (q' : Nat → Nat),
          runNT P N (crowd gs (Lift.tw w T d) sl) t = (.next (crowd gs' w' sl'), t ++ u) ∧ gs'.size = gs.size ∧ gs'[0]? = some (G fr' cs) ∧ Stop fr' w' ∧ Leavers P (t ++ u) gs' q' ∧ Past0 (t ++ u) ∧ ((∀ m, ok m → m ≠ .disable) → Deaf t 0 = 0 → Deaf (t ++ u) 0 = 0) := by
      intro T d d' gs sl sl' t q cs h0 hL hP hst
      have hgo := h T d' cs
      have hrunT := runT_crowd_go (P := P) (w := Lift.tw w T d') (sl := sl') (i := 0) h0 (show stepG P (0 == 0) _ (Lift.tw w T d') = _ from hgo)
      have hops : ∀ op ∈ MemOp.ofEvents 0 (G fr (fs ++ cs)).frame.fn (G fr (fs ++ cs)).frame.place (es T d'), op.g = 0 := fun op hop => by obtain ⟨e, _, rfl⟩ := Go.Conc.mem_ofEvents hop; rfl
      obtain ⟨N, gs', a, v, sl'', u, q', e1, e2, e3, e4, e5, e6, e7⟩ := ih T d' (w' T d') ⟨_, _, (tw_self _).symm, fun _ x => x⟩ ((gs.map (woken P (G fr (fs ++ cs)) (G (fr' T d') (fs' T d' ++ cs)) (w' T d'))).setIfInBounds 0 (G (fr' T d') (fs' T d' ++ cs))) sl' _ q cs
        (Array.getElem?_setIfInBounds_self_of_lt (by simpa using size_pos_of h0)) (leavers_own hL h0 hops) (hP.own _ _ _)
      refine ⟨N + 1, gs', a, v, sl'', _ ++ u, q', ?_, e2.trans (by simp), e3, e4, by rw [← Array.append_assoc]; exact e5, by rw [← Array.append_assoc]; exact e6, fun hm hd => by rw [← Array.append_assoc]; exact e7 hm (by rw [Deaf_own, hd]; exact deafBehind_zero fun e hes hl => hm _ (he T d' e hes _ hl) rfl)⟩
      rw [← Array.append_assoc, ← e1]
      simp only [runNT, hst]
      rw [show (Lift.tw w T d).at d' = Lift.tw w T d' from rfl, hrunT]
    -- an inner induction on what the leavers have left
    have inner : ∀ (M : Nat) (w₁ : World), (∃ T d, w₁ = Lift.tw w T d) → ∀ (gs : Array Goroutine) (sl : Option (Nat × Nat)) (t : Trace) (q : Nat → Nat) (cs : List Frame), sumTo gs.size q ≤ M → gs[0]? = some (G fr (fs ++ cs)) → Leavers P t gs q → Past0 t →
      ∃ (N : Nat) (gs' : Array Goroutine) (fr' : Frame) (w' : World) (sl' : Option (Nat × Nat)) (u : Trace) (q' : Nat → Nat),
        runNT P N (crowd gs w₁ sl) t = (.next (crowd gs' w' sl'), t ++ u) ∧ gs'.size = gs.size ∧ gs'[0]? = some (G fr' cs) ∧ Stop fr' w' ∧ Leavers P (t ++ u) gs' q' ∧ Past0 (t ++ u) ∧ ((∀ m, ok m → m ≠ .disable) → Deaf t 0 = 0 → Deaf (t ++ u) 0 = 0) := by
      intro M
      induction M with
      | zero =>
        rintro w₁ ⟨T, d, rfl⟩ gs sl t q cs hM h0 hL hP
        obtain ⟨i, g, d', sl', hi, hg, hst⟩ := crowd_pick (P := P) (w := Lift.tw w T d) (sl := sl) (crowd_awake hL h0 rfl) ⟨0, _, h0, rfl⟩
        rcases Nat.eq_zero_or_pos i with rfl | hpos
        · exact ownCase T d d' gs sl sl' t q cs h0 hL hP hst
        · obtain ⟨gs', q', ops, _, _, _, _, _, hlt, _⟩ := leaver_slip (w := (Lift.tw w T d).at d') (sl := sl') hL hpos hi hg h0 rfl hP
          omega
      | succ M ihM =>
        rintro w₁ ⟨T, d, rfl⟩ gs sl t q cs hM h0 hL hP
        obtain ⟨i, g, d', sl', hi, hg, hst⟩ := crowd_pick (P := P) (w := Lift.tw w T d) (sl := sl) (crowd_awake hL h0 rfl) ⟨0, _, h0, rfl⟩
        rcases Nat.eq_zero_or_pos i with rfl | hpos
        · exact ownCase T d d' gs sl sl' t q cs h0 hL hP hst
        · obtain ⟨gs', q', ops, hr, hsz, h0', hL', hP', hlt, hops⟩ := leaver_slip (w := (Lift.tw w T d).at d') (sl := sl') hL hpos hi hg h0 rfl hP
          obtain ⟨N, gs'', a, v, sl'', u, q'', e1, e2, e3, e4, e5, e6, e7⟩ := ihM ((Lift.tw w T d).at d') ⟨T, d', rfl⟩ gs' sl' (t ++ ops) q' cs (by rw [hsz]; omega) h0' hL' hP'
          refine ⟨N + 1, gs'', a, v, sl'', ops ++ u, q'', ?_, e2.trans hsz, e3, e4, by rw [← Array.append_assoc]; exact e5, by rw [← Array.append_assoc]; exact e6, fun hm hd => by rw [← Array.append_assoc]; exact e7 hm (by rw [Deaf_other t (g := 0) (g' := i) (by omega) _ hops]; exact hd)⟩
          rw [← Array.append_assoc, ← e1]
          simp only [runNT, hst, hr]
    rintro w₁ ⟨T, d, rfl, _⟩ gs sl t q cs h0 hL hP
    exact inner _ _ ⟨T, d, rfl⟩ gs sl t q cs (Nat.le_refl _) h0 hL hP
end
end Go.Proofs.Ythpanpedoeghoaa.Lift
