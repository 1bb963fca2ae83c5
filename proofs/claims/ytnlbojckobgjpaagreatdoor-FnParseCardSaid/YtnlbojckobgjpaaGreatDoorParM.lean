/- What a parser keeps in memory: its state's block, its rows of tokens, nodes and assignments. -/
import Derived.Test.YtnlbojckobgjpaaGreatDoorLexT
import Derived.Test.YtnlbojckobgjpaaGreatDoorParP
import Derived.Test.YtnlbojckobgjpaaGreatDoorPhase
import Derived.Test.YtnlbojckobgjpaaGreatDoorMgD
import Derived.BigRegion
set_option linter.unusedVariables false
set_option linter.unusedSimpArgs false
namespace Go.Proofs.YtnlbojckobgjpaaGreatDoor
open Go.RowKit Go.Lib
set_option maxRecDepth 100000
def cAss (x : EAssign) : List Value := [str x.1, .int .i64 x.2]
abbrev rAss (l : List EAssign) : List Value := rowOf cAss l
theorem rAss_len (l : List EAssign) : (rAss l).length = l.length * 2 := rowOf_len (f := cAss) (s := 2) (fun _ => rfl) l
theorem rAss_at {l : List EAssign} {k : Nat} (hk : k < l.length) : (rAss l)[k * 2]? = some (str l[k].1) ∧ (rAss l)[k * 2 + 1]? = some (.int .i64 l[k].2) := by
  have h := rowOf_at (f := cAss) (s := 2) (fun _ => rfl) l k
  exact ⟨h 0 hk (by omega), h 1 hk (by omega)⟩
theorem rAss_one (l : List EAssign) : ∀ u ∈ rAss l, u.oneCell' = true := by
  intro u hu
  obtain ⟨x, _, hx⟩ := List.mem_flatMap.1 hu
  simp only [cAss, List.mem_cons, List.not_mem_nil, or_false] at hx
  rcases hx with rfl | rfl <;> rfl
theorem rAss_snoc (l : List EAssign) (x : EAssign) : rAss l ++ rAss [x] = rAss (l ++ [x]) := by simp [rAss, rowOf]
abbrev nodeV (op : Int) (name : List UInt8) (num : Int) (v : Value) : Value := .agg #[.int .i64 op, str name, .int .i64 num, v]
theorem node_one (op : Int) (name : List UInt8) (num : Int) (v : Value) (hv : v.oneCell' = true := by rfl) : ∀ u ∈ [.int .i64 op, str name, .int .i64 num, v], u.oneCell' = true := by
  intro u hu
  simp only [List.mem_cons, List.not_mem_nil, or_false] at hu
  rcases hu with rfl | rfl | rfl | rfl <;> first | rfl | exact hv
/-- The cells cs hold the node x; its row of arguments lies in no block of X. -/
def NodeC (w : World) (X : List Nat) (cs : List Value) (x : ENode) : Prop :=
  ∃ A c, cs = [.int .i64 x.1, str x.2.1, .int .i64 x.2.2.1, .slice A x.2.2.2.length c] ∧ OwnS w 1 A x.2.2.2.length c 3 (ints x.2.2.2) ∧ ∀ y, y ∈ gOf A → y ∉ X
theorem NodeC.one {w : World} {X : List Nat} {cs : List Value} {x : ENode} (h : NodeC w X cs x) : ∀ u ∈ cs, u.oneCell' = true := by
  obtain ⟨A, c, rfl, _⟩ := h
  intro u hu
  simp only [List.mem_cons, List.not_mem_nil, or_false] at hu
  rcases hu with rfl | rfl | rfl | rfl <;> rfl
theorem NodeC.len {w : World} {X : List Nat} {cs : List Value} {x : ENode} (h : NodeC w X cs x) : cs.length = 4 := by
  obtain ⟨A, c, rfl, _⟩ := h; rfl
theorem RS.keep {w w' : World} {size n c : Nat} {A : Option Addr} {xs : List Value} (h : RS w size A n c xs) (hz : w.heap.size ≤ w'.heap.size) (hg : 0 < n → ∀ x, x ∈ gOf A → x < w.heap.size → w'.heap[x]? = w.heap[x]?) : RS w' size A n c xs := by
  obtain ⟨hl, A', c', hs, h1, h2, hr⟩ := h
  injection hs with e1 _ e2
  subst e1; subst e2
  refine ⟨hl, A, c, rfl, h1, h2, fun hn => ?_⟩
  obtain ⟨b, o, rfl, h4, h5, h6⟩ := hr hn
  refine ⟨b, o, rfl, h4, Nat.lt_of_lt_of_le h5 hz, fun j hj => ?_⟩
  rw [← h6 j hj]
  exact World.cell?_of_block (hg hn b (by simp [gOf]) h5)
theorem OwnS.keep {w w' : World} {sz n c : Nat} {A : Option Addr} {t : TypeId} {cs : List Value} (h : OwnS w sz A n c t cs) (hg : ∀ x, x ∈ gOf A → x < w.heap.size → w'.heap[x]? = w.heap[x]?) : OwnS w' sz A n c t cs := by
  obtain ⟨h1, h2, h3, h4⟩ := h
  refine ⟨h1, h2, h3, ?_⟩
  rcases h4 with ⟨rfl, h5⟩ | ⟨g, ds, rfl, ho⟩
  · exact .inl ⟨rfl, h5⟩
  · exact .inr ⟨g, ds, rfl, (hg g (by simp [gOf]) ho.lt).trans ho⟩
theorem NodeC.move {w w' : World} {X Y : List Nat} {cs : List Value} {x : ENode} (h : NodeC w X cs x) (hX : ∀ y, y ∉ X → y < w.heap.size → w'.heap[y]? = w.heap[y]?) (hY : ∀ y, y ∈ Y → y ∈ X ∨ w.heap.size ≤ y) : NodeC w' Y cs x := by
  obtain ⟨A, c, rfl, hr, ha⟩ := h
  refine ⟨A, c, rfl, hr.keep (fun y hy hl => hX y (ha y hy) hl), fun y hy hyY => ?_⟩
  have := hr.lt y hy
  rcases hY y hyY with h1 | h1
  · exact ha y hy h1
  · omega
/-- A row of nodes, as cells. -/
def NodesC (w : World) (X : List Nat) (cs : List Value) (ns : List ENode) : Prop := ∀ (i : Nat) (h : i < ns.length), NodeC w X ((cs.drop (i * 4)).take 4) ns[i]
theorem NodesC.move {w w' : World} {X Y : List Nat} {cs : List Value} {ns : List ENode} (h : NodesC w X cs ns) (hX : ∀ y, y ∉ X → y < w.heap.size → w'.heap[y]? = w.heap[y]?) (hY : ∀ y, y ∈ Y → y ∈ X ∨ w.heap.size ≤ y) : NodesC w' Y cs ns := fun i hi => (h i hi).move hX hY
theorem NodesC.keep {w w' : World} {X : List Nat} {cs : List Value} {ns : List ENode} (h : NodesC w X cs ns) (hX : ∀ y, y ∉ X → y < w.heap.size → w'.heap[y]? = w.heap[y]?) : NodesC w' X cs ns := h.move hX (fun y hy => .inl hy)
theorem NodesC.set_ {w : World} {X Y : List Nat} {cs : List Value} {ns : List ENode} (h : NodesC w X cs ns) (hY : ∀ y, y ∈ Y → y ∈ X ∨ w.heap.size ≤ y) : NodesC w Y cs ns := h.move (fun _ _ _ => rfl) hY
theorem NodesC.nil (w : World) (X : List Nat) (cs : List Value) : NodesC w X cs [] := fun i h => absurd h (by simp)
theorem NodesC.snoc {w : World} {X : List Nat} {cs zs : List Value} {ns : List ENode} {x : ENode} (h : NodesC w X cs ns) (hl : cs.length = ns.length * 4) (hz : NodeC w X zs x) : NodesC w X (cs ++ zs) (ns ++ [x]) := by
  intro i hi
  rcases Nat.lt_or_ge i ns.length with h1 | h1
  · rw [List.getElem_append_left h1]
    have : (i + 1) * 4 ≤ ns.length * 4 := Nat.mul_le_mul_right _ h1
    rw [List.drop_append_of_le_length (by omega), List.take_append_of_le_length (by rw [List.length_drop]; omega)]
    exact h i h1
  · have e : i = ns.length := by simp at hi; omega
    subst e
    rw [List.getElem_concat_length rfl, ← hl, List.drop_left, ← hz.len, List.take_length]
    exact hz
/-- The rows of arguments lie apart from each other. -/
def ApartC (cs : List Value) (n : Nat) : Prop := ∀ (i j : Nat) (A B : Option Addr) (l m c d : Nat), i < j → j < n → cs[i * 4 + 3]? = some (.slice A l c) → cs[j * 4 + 3]? = some (.slice B m d) → ∀ y, y ∈ gOf A → y ∉ gOf B
theorem ApartC.nil (cs : List Value) : ApartC cs 0 := fun i j _ _ _ _ _ _ _ hj => absurd hj (by omega)
theorem NodesC.arg {w : World} {X : List Nat} {cs : List Value} {ns : List ENode} (h : NodesC w X cs ns) (hl : cs.length = ns.length * 4) {i : Nat} (hi : i < ns.length) {A : Option Addr} {l c : Nat} (hA : cs[i * 4 + 3]? = some (.slice A l c)) : ∀ y, y ∈ gOf A → y ∉ X := by
  obtain ⟨A', c', hcs, hr, ha⟩ := h i hi
  have e : ((cs.drop (i * 4)).take 4)[3]? = some (.slice A l c) := by rw [List.getElem?_take_of_lt (by omega), List.getElem?_drop, hA]
  rw [hcs] at e
  simp only [List.getElem?_cons_succ, List.getElem?_cons_zero, Option.some.injEq, Value.slice.injEq] at e
  obtain ⟨rfl, rfl, rfl⟩ := e
  exact ha
theorem ApartC.snoc {w : World} {X : List Nat} {cs : List Value} {ns : List ENode} {A : Option Addr} {l c : Nat} {v0 v1 v2 : Value} (h : ApartC cs ns.length) (hn : NodesC w X cs ns) (hl : cs.length = ns.length * 4) (hX : ∀ y, y ∈ gOf A → y ∈ X) : ApartC (cs ++ [v0, v1, v2, .slice A l c]) (ns.length + 1) := by
  intro i j A1 B1 l1 m1 c1 d1 hij hj h1 h2 y hy
  have hi : i * 4 + 3 < cs.length := by rw [hl]; omega
  rw [List.getElem?_append_left hi] at h1
  rcases Nat.lt_or_ge j ns.length with hjl | hjl
  · rw [List.getElem?_append_left (by rw [hl]; omega)] at h2
    exact h i j A1 B1 l1 m1 c1 d1 hij hjl h1 h2 y hy
  · obtain rfl : j = ns.length := by omega
    rw [List.getElem?_append_right (by rw [hl]; omega), hl, show ns.length * 4 + 3 - ns.length * 4 = 3 by omega] at h2
    simp only [List.getElem?_cons_succ, List.getElem?_cons_zero, Option.some.injEq, Value.slice.injEq] at h2
    obtain ⟨rfl, rfl, rfl⟩ := h2
    exact fun q => hn.arg hl (by omega) h1 y hy (hX y q)
theorem Only.al {B : Nat} {G : List Nat} {w w' : World} (h : Only B G w w') (hB : B ≤ w'.heap.size) (o : Obj) : Only B G w (w'.alloc o) :=
  ⟨h.os, h.tape, h.output, Nat.le_trans h.size (by simp), fun y hy hG => (Below.heap_alloc w' o y (by omega)).trans (h.block y hy hG)⟩
theorem Only.mono' {B : Nat} {G H : List Nat} {w w' : World} (h : Only B G w w') (hG : ∀ x, x ∈ G → x ∈ H) : Only B H w w' := ⟨h.os, h.tape, h.output, h.size, fun y hy hH => h.block y hy (fun hx => hH (hG y hx))⟩
theorem Only.sub {B C : Nat} {G H : List Nat} {a b c : World} (h : Only B G a b) (k : Only C H b c) (hB : B ≤ C) (hH : ∀ x, x ∈ H → x ∈ G ∨ B ≤ x) : Only B G a c :=
  ⟨k.os.trans h.os, k.tape.trans h.tape, k.output.trans h.output, Nat.le_trans h.size k.size, fun y hy hG => (k.block y (by omega) (fun hyH => by rcases hH y hyH with h1 | h1; exact hG h1; omega)).trans (h.block y hy hG)⟩
theorem T.infoNode : (Tryz.prog.info? 70).map (fun i => (i.zero, i.size, i.bytes)) = some (some (.agg #[.int .i64 0, .string ByteArray.empty, .int .i64 0, .slice none 0 0]), 4, 56) := by kernel_rfl
theorem T.infoAss : (Tryz.prog.info? 48).map (fun i => (i.zero, i.size, i.bytes)) = some (some (.agg #[.string ByteArray.empty, .int .i64 0]), 2, 24) := by kernel_rfl
/-- The rows of a parser; B: its state's block; X: blocks of a caller's own. -/
structure PMem (w : World) (B base : Nat) (TA : Option Addr) (tc : Nat) (T : List ETok) (AA : Option Addr) (ac : Nat) (as_ : List EAssign) (X : List Nat) (NA : Option Addr) (nc : Nat) (ns : List ENode) : Prop where
  tok : RS w 4 TA T.length tc (rTok T)
  ass : Grow w base 48 2 AA as_.length ac (rAss as_)
  nod : ∃ cs, Grow w base 70 4 NA ns.length nc cs ∧ NodesC w (B :: (gOf NA ++ gOf AA ++ X)) cs ns ∧ ApartC cs ns.length
  apT : ∀ x, x ∈ gOf TA → x ≠ B ∧ x ∉ gOf NA ∧ x ∉ gOf AA ∧ x ∉ X
  apN : ∀ x, x ∈ gOf NA → x ≠ B ∧ x ∉ gOf AA ∧ x ∉ X
  apA : ∀ x, x ∈ gOf AA → x ≠ B ∧ x ∉ X
  low : base ≤ w.heap.size
  blt : B < w.heap.size
  tlt : ∀ x, x ∈ gOf TA → x < w.heap.size
  xlt : ∀ x, x ∈ X → x < w.heap.size ∧ x ≠ B
  cap : ns.length ≤ 60
section
variable {w w' : World} {B base : Nat} {TA : Option Addr} {tc : Nat} {T : List ETok} {AA : Option Addr} {ac : Nat} {as_ : List EAssign} {X Y : List Nat} {NA : Option Addr} {nc : Nat} {ns : List ENode}
theorem PMem.keepX (h : PMem w B base TA tc T AA ac as_ X NA nc ns) (hz : w.heap.size ≤ w'.heap.size) (hb : ∀ x, x ≠ B → x ∉ X → x < w.heap.size → w'.heap[x]? = w.heap[x]?) : PMem w' B base TA tc T AA ac as_ X NA nc ns := by
  obtain ⟨cs, hg, hn, hp⟩ := h.nod
  exact ⟨h.tok.keep hz (fun _ x hx hl => hb x (h.apT x hx).1 (h.apT x hx).2.2.2 hl), h.ass.keep (fun x hx => hb x (h.apA x hx).1 (h.apA x hx).2 (h.ass.lt x hx)), ⟨cs, hg.keep (fun x hx => hb x (h.apN x hx).1 (h.apN x hx).2.2 (hg.lt x hx)), hn.keep (fun y hy hl => hb y (fun e => hy (by simp [e])) (fun e => hy (by simp [e])) hl), hp⟩, h.apT, h.apN, h.apA, Nat.le_trans h.low hz, Nat.lt_of_lt_of_le h.blt hz, fun x hx => Nat.lt_of_lt_of_le (h.tlt x hx) hz, fun x hx => ⟨Nat.lt_of_lt_of_le (h.xlt x hx).1 hz, (h.xlt x hx).2⟩, h.cap⟩
theorem PMem.keep (h : PMem w B base TA tc T AA ac as_ X NA nc ns) (hz : w.heap.size ≤ w'.heap.size) (hb : ∀ x, x ≠ B → x < w.heap.size → w'.heap[x]? = w.heap[x]?) : PMem w' B base TA tc T AA ac as_ X NA nc ns := h.keepX hz (fun x h1 _ h2 => hb x h1 h2)
theorem PMem.step (hb : Below w.heap.size w w') (h : PMem w B base TA tc T AA ac as_ X NA nc ns) : PMem w' B base TA tc T AA ac as_ X NA nc ns := h.keep hb.size (fun x _ hl => hb.block x hl)
theorem PMem.set_ (h : PMem w B base TA tc T AA ac as_ X NA nc ns) (i : Nat) (v : Value) : PMem (w.setCell ⟨B, i, none⟩ v) B base TA tc T AA ac as_ X NA nc ns := h.keep (by simp [World.setCell]) (fun x hx _ => Below.heap_setCell _ _ _ _ hx)
theorem PMem.fresh (h : PMem w B base TA tc T AA ac as_ X NA nc ns) : w.heap.size ∉ B :: (gOf NA ++ gOf AA ++ X) := by
  obtain ⟨cs, hg, hn, _⟩ := h.nod
  simp only [List.mem_cons, List.mem_append, not_or]
  have := h.blt
  exact ⟨by omega, ⟨fun q => by have := hg.lt _ q; omega, fun q => by have := h.ass.lt _ q; omega⟩, fun q => by have := (h.xlt _ q).1; omega⟩
theorem PMem.drew (h : PMem w B base TA tc T AA ac as_ X NA nc ns) : PMem w.drew B base TA tc T AA ac as_ X NA nc ns := h.keep (Nat.le_refl _) (fun _ _ _ => rfl)
/-- Other blocks of the caller's own: new ones, or fewer. -/
theorem PMem.own (h : PMem w B base TA tc T AA ac as_ X NA nc ns) (hb : Below w.heap.size w w') (hY : ∀ y, y ∈ Y → y < w'.heap.size ∧ (y ∈ X ∨ w.heap.size ≤ y)) : PMem w' B base TA tc T AA ac as_ Y NA nc ns := by
  obtain ⟨cs, hg, hn, hp⟩ := h.nod
  have k := h.step hb
  have hN := hg.lt
  have hA := h.ass.lt
  have hT := h.tlt
  have hB := h.blt
  refine ⟨k.tok, k.ass, ⟨cs, hg.step hb, hn.move (fun y _ hl => hb.block y hl) (fun y hy => ?_), hp⟩, fun x hx => ?_, fun x hx => ?_, fun x hx => ?_, k.low, k.blt, k.tlt, fun x hx => ⟨(hY x hx).1, ?_⟩, h.cap⟩
  · simp only [List.mem_cons, List.mem_append] at hy ⊢
    rcases hy with rfl | (hy | hy) | hy
    · exact .inl (.inl rfl)
    · exact .inl (.inr (.inl (.inl hy)))
    · exact .inl (.inr (.inl (.inr hy)))
    · exact (hY y hy).2.imp (fun q => .inr (.inr q)) id
  · obtain ⟨h1, h2, h3, h4⟩ := h.apT x hx
    refine ⟨h1, h2, h3, fun q => ?_⟩
    have := hT x hx
    rcases (hY x q).2 with r | r
    · exact h4 r
    · omega
  · obtain ⟨h1, h2, h3⟩ := h.apN x hx
    refine ⟨h1, h2, fun q => ?_⟩
    have := hN x hx
    rcases (hY x q).2 with r | r
    · exact h3 r
    · omega
  · obtain ⟨h1, h2⟩ := h.apA x hx
    refine ⟨h1, fun q => ?_⟩
    have := hA x hx
    rcases (hY x q).2 with r | r
    · exact h2 r
    · omega
  · rcases (hY x hx).2 with r | r
    · exact (h.xlt x r).2
    · omega
theorem PMem.tokAt (h : PMem w B base TA tc T AA ac as_ X NA nc ns) {a : Nat} (ha : a < T.length) : T.length ≤ tc ∧ tc ≤ maxLen ∧ ∃ b o, TA = some ⟨b, o, none⟩ ∧ b < w.heap.size ∧ b ≠ B ∧ w.cell? ⟨b, o + a * 4, none⟩ = some (.int .i64 (kd T a)) ∧ w.cell? ⟨b, o + a * 4 + 1, none⟩ = some (str (tx T a)) ∧ w.cell? ⟨b, o + a * 4 + 2, none⟩ = some (.int .i64 (nm T a)) ∧ w.cell? ⟨b, o + a * 4 + 3, none⟩ = some (.int .i64 (of_ T a)) := by
  obtain ⟨h1, h2, h3⟩ := h.tok.open_
  obtain ⟨b, o, hA, hb, hc⟩ := h3 (by omega)
  obtain ⟨q0, q1, q2, q3⟩ := rTok_at ha
  have e : tk T a = T[a] := by unfold tk; simp [ha]
  refine ⟨h1, h2, b, o, hA, hb, (h.apT b (by rw [hA]; simp [gOf])).1, ?_, ?_, ?_, ?_⟩
  · rw [hc _ (by omega), q0]; unfold kd; rw [e]
  · rw [Nat.add_assoc, hc _ (by omega), q1]; unfold tx; rw [e]
  · rw [Nat.add_assoc, hc _ (by omega), q2]; unfold nm; rw [e]
  · rw [Nat.add_assoc, hc _ (by omega), q3]; unfold of_; rw [e]
/-- A node was put at the end. -/
theorem PMem.emit {A A' : Option Addr} {c c' : Nat} {cs : List Value} {op num : Int} {name : List UInt8} {args : List Int} (h0 : PMem w B base TA tc T AA ac as_ (gOf A ++ X) NA nc ns) (hl : ns.length < 60) (hg : Grow w base 70 4 NA ns.length nc cs) (hn0 : NodesC w (B :: (gOf NA ++ gOf AA ++ (gOf A ++ X))) cs ns) (hp : ApartC cs ns.length)
    (hr : OwnS w 1 A args.length c 3 (ints args)) (hAX : ∀ y, y ∈ gOf A → y ∉ X)
    (ap : Appended w base 70 4 NA ns.length (cs ++ [.int .i64 op, str name, .int .i64 num, .slice A args.length c]) A' (ns.length + 1) c' w') : PMem w' B base TA tc T AA ac as_ X A' c' (ns ++ [(op, name, num, args)]) ∧ Only w.heap.size (gOf NA) w w' ∧ (∀ y, y ∈ gOf A' → y ∈ gOf NA ∨ y = w.heap.size) := by
  have h : PMem w B base TA tc T AA ac as_ X NA nc ns := h0.own (Below.refl _ _) (fun y hy => ⟨(h0.xlt y (by simp [hy])).1, .inl (by simp [hy])⟩)
  have hn : NodesC w (B :: (gOf NA ++ gOf AA ++ X)) cs ns := hn0.set_ (fun y hy => .inl (by simp only [List.mem_cons, List.mem_append] at hy ⊢; rcases hy with q | (q | q) | q <;> simp [q]))
  have hz : NodeC w (B :: (gOf NA ++ gOf AA ++ X)) [.int .i64 op, str name, .int .i64 num, .slice A args.length c] (op, name, num, args) := ⟨A, c, rfl, hr, fun y hy => by
    simp only [List.mem_cons, List.mem_append, not_or]
    exact ⟨(h0.xlt y (by simp [hy])).2, ⟨fun q => (h0.apN y q).2.2 (by simp [hy]), fun q => (h0.apA y q).2 (by simp [hy])⟩, hAX y hy⟩⟩
  have hp2 : ApartC (cs ++ [.int .i64 op, str name, .int .i64 num, .slice A args.length c]) (ns.length + 1) := hp.snoc hn0 hg.len (fun y hy => by simp [hy])
  have hblk : ∀ y, y < w.heap.size → y ∉ gOf NA → w'.heap[y]? = w.heap[y]? := fun y hy hN => ap.2.2.1.block y hy (by cases NA <;> simp_all [gOf])
  have hsz := ap.2.2.2.1
  have hA : ∀ y, y ∈ gOf A' → y ∈ gOf NA ∨ y = w.heap.size := fun y hy => by
    rcases ap.2.2.2.2 with e | e
    · rw [e] at hy; exact .inl hy
    · rw [e] at hy; right; simpa using hy
  refine ⟨⟨h.tok.keep hsz (fun _ x hx hl => hblk x hl (h.apT x hx).2.1), h.ass.keep (fun x hx => hblk x (h.ass.lt x hx) (fun hN => (h.apN x hN).2.1 hx)), ⟨cs ++ [.int .i64 op, str name, .int .i64 num, .slice A args.length c], ?_, ?_, ?_⟩, fun y hy => ?_, fun y hy => ?_, h.apA, Nat.le_trans h.low hsz, Nat.lt_of_lt_of_le h.blt hsz, fun x hx => Nat.lt_of_lt_of_le (h.tlt x hx) hsz, fun x hx => ⟨Nat.lt_of_lt_of_le (h.xlt x hx).1 hsz, (h.xlt x hx).2⟩, by simp; omega⟩, ⟨ap.2.1.os, ap.2.1.tape, ap.2.1.output, hsz, fun y hy hN => hblk y hy hN⟩, hA⟩
  · have := ap.1
    rw [List.length_append]
    exact this
  · refine (NodesC.snoc hn hg.len hz).move (fun y hy hl => hblk y hl (fun hN => hy (by simp [hN]))) (fun y hy => ?_)
    simp only [List.mem_cons, List.mem_append] at hy ⊢
    rcases hy with rfl | (hy | hy) | hy
    · exact .inl (.inl rfl)
    · rcases hA y hy with h2 | h2
      · exact .inl (.inr (.inl (.inl h2)))
      · exact .inr (by omega)
    · exact .inl (.inr (.inl (.inr hy)))
    · exact .inl (.inr (.inr hy))
  · rw [List.length_append]; exact hp2
  · obtain ⟨h1, h2, h3⟩ := h.apT y hy
    refine ⟨h1, fun hA' => ?_, h3⟩
    have := h.tlt y hy
    rcases hA y hA' with h4 | h4
    · exact h2 h4
    · omega
  · rcases hA y hy with h4 | h4
    · exact h.apN y h4
    · have := h.blt
      exact ⟨by omega, fun h5 => by have := h.ass.lt y h5; omega, fun h5 => by have := (h.xlt y h5).1; omega⟩
theorem PMem.put {W : World} {A A' : Option Addr} {c c' : Nat} {cs : List Value} {op num : Int} {name : List UInt8} {args : List Int} (h : PMem w B base TA tc T AA ac as_ (gOf A ++ X) NA nc ns) (hl : ns.length < 60) (hb : Below w.heap.size w W) (hg : Grow w base 70 4 NA ns.length nc cs) (hn : NodesC w (B :: (gOf NA ++ gOf AA ++ (gOf A ++ X))) cs ns) (hp : ApartC cs ns.length)
    (hr : OwnS w 1 A args.length c 3 (ints args)) (hAX : ∀ y, y ∈ gOf A → y ∉ X)
    (ap : Appended W base 70 4 NA ns.length (cs ++ [.int .i64 op, str name, .int .i64 num, .slice A args.length c]) A' (ns.length + 1) c' w') : PMem w' B base TA tc T AA ac as_ X A' c' (ns ++ [(op, name, num, args)]) ∧ Only w.heap.size (gOf NA) w w' ∧ (∀ y, y ∈ gOf A' → y ∈ gOf NA ∨ w.heap.size ≤ y) := by
  obtain ⟨h1, h2, h3⟩ := PMem.emit (h.step hb) hl (hg.step hb) (hn.keep (fun y _ hl => hb.block y hl)) hp (hr.step hb) hAX ap
  exact ⟨h1, Only.sub (Only.of_below hb _) h2 hb.size (fun x hx => .inl hx), fun y hy => (h3 y hy).imp id (fun e => by rw [e]; exact hb.size)⟩
/-- A row of the caller's own was appended to. -/
theorem PMem.app {e : TypeId} {size n n' c' base' : Nat} {xs : List Value} {PA PA' : Option Addr} (h : PMem w B base TA tc T AA ac as_ (gOf PA ++ X) NA nc ns) (ap : Appended w base' e size PA n xs PA' n' c' w') : PMem w' B base TA tc T AA ac as_ (gOf PA' ++ X) NA nc ns := by
  have hblk : ∀ y, y < w.heap.size → y ∉ gOf PA → w'.heap[y]? = w.heap[y]? := fun y hy hN => ap.2.2.1.block y hy (by cases PA <;> simp_all [gOf])
  have hsz := ap.2.2.2.1
  have h1 : PMem w' B base TA tc T AA ac as_ (gOf PA ++ X) NA nc ns := h.keepX hsz (fun x _ hX hl => hblk x hl (fun q => hX (by simp [q])))
  have hlt := ap.1.lt
  rcases ap.2.2.2.2 with q | q
  · rw [q]; exact h1
  · rw [q]
    obtain ⟨cs, hg, hn, hp⟩ := h.nod
    have hN := hg.lt
    have hA := h.ass.lt
    refine ⟨h1.tok, h1.ass, ⟨cs, hg.keep (fun x hx => hblk x (hN x hx) (fun r => (h.apN x hx).2.2 (by simp [r]))), hn.move (fun y hy hl => hblk y hl (fun r => hy (by simp [r]))) (fun y hy => ?_), hp⟩, fun x hx => ?_, fun x hx => ?_, fun x hx => ?_, h1.low, h1.blt, h1.tlt, fun x hx => ?_, h.cap⟩
    · simp only [List.mem_cons, List.mem_append, List.not_mem_nil, or_false] at hy ⊢
      rcases hy with rfl | (hy | hy) | hy | hy
      · exact .inl (.inl rfl)
      · exact .inl (.inr (.inl (.inl hy)))
      · exact .inl (.inr (.inl (.inr hy)))
      · right; omega
      · exact .inl (.inr (.inr (.inr hy)))
    · obtain ⟨a1, a2, a3, a4⟩ := h.apT x hx
      have := h.tlt x hx
      exact ⟨a1, a2, a3, fun r => by simp at r; rcases r with r | r; omega; exact a4 (by simp [r])⟩
    · obtain ⟨a1, a2, a3⟩ := h.apN x hx
      have := hN x hx
      exact ⟨a1, a2, fun r => by simp at r; rcases r with r | r; omega; exact a3 (by simp [r])⟩
    · obtain ⟨a1, a2⟩ := h.apA x hx
      have := hA x hx
      exact ⟨a1, fun r => by simp at r; rcases r with r | r; omega; exact a2 (by simp [r])⟩
    · simp only [List.mem_cons, List.mem_append, List.not_mem_nil, or_false] at hx
      rcases hx with rfl | hx
      · have := hlt w.heap.size (by rw [q]; simp)
        have := h.blt
        exact ⟨by omega, by omega⟩
      · have := h.xlt x (by simp [hx])
        exact ⟨by omega, this.2⟩
/-- An assignment was put at the end. -/
theorem PMem.assign {W : World} {A' : Option Addr} {c' : Nat} {x : EAssign} (h0 : PMem w B base TA tc T AA ac as_ X NA nc ns) (hb : Below w.heap.size w W)
    (ap : Appended W base 48 2 AA as_.length (rAss as_ ++ rAss [x]) A' (as_.length + 1) c' w') : PMem w' B base TA tc T A' c' (as_ ++ [x]) X NA nc ns ∧ Only w.heap.size (gOf AA) w w' ∧ (∀ y, y ∈ gOf A' → y ∈ gOf AA ∨ w.heap.size ≤ y) := by
  have h := h0.step hb
  have hblk : ∀ y, y < W.heap.size → y ∉ gOf AA → w'.heap[y]? = W.heap[y]? := fun y hy hN => ap.2.2.1.block y hy (by cases AA <;> simp_all [gOf])
  have hsz := ap.2.2.2.1
  have hA : ∀ y, y ∈ gOf A' → y ∈ gOf AA ∨ y = W.heap.size := fun y hy => by
    rcases ap.2.2.2.2 with e | e
    · rw [e] at hy; exact .inl hy
    · rw [e] at hy; right; simpa using hy
  obtain ⟨cs, hg, hn, hp⟩ := h.nod
  refine ⟨⟨h.tok.keep hsz (fun _ x hx hl => hblk x hl (h.apT x hx).2.2.1), ?_, ⟨cs, hg.keep (fun x hx => hblk x (hg.lt x hx) (h.apN x hx).2.1), ?_, hp⟩, fun y hy => ?_, fun y hy => ?_, fun y hy => ?_, Nat.le_trans h.low hsz, Nat.lt_of_lt_of_le h.blt hsz, fun x hx => Nat.lt_of_lt_of_le (h.tlt x hx) hsz, fun x hx => ⟨Nat.lt_of_lt_of_le (h.xlt x hx).1 hsz, (h.xlt x hx).2⟩, h.cap⟩, Only.sub (Only.of_below hb _) ⟨ap.2.1.os, ap.2.1.tape, ap.2.1.output, hsz, fun y hy hN => hblk y hy hN⟩ hb.size (fun x hx => .inl hx), fun y hy => (hA y hy).imp id (fun e => by rw [e]; exact hb.size)⟩
  · have := ap.1
    rw [rAss_snoc] at this
    rw [List.length_append]
    exact this
  · refine hn.move (fun y hy hl => hblk y hl (fun hN => hy (by simp [hN]))) (fun y hy => ?_)
    simp only [List.mem_cons, List.mem_append] at hy ⊢
    rcases hy with rfl | (hy | hy) | hy
    · exact .inl (.inl rfl)
    · exact .inl (.inr (.inl (.inl hy)))
    · rcases hA y hy with h2 | h2
      · exact .inl (.inr (.inl (.inr h2)))
      · exact .inr (by omega)
    · exact .inl (.inr (.inr hy))
  · obtain ⟨h1, h2, h3, h4⟩ := h.apT y hy
    refine ⟨h1, h2, fun q => ?_, h4⟩
    have := h.tlt y hy
    rcases hA y q with r | r
    · exact h3 r
    · omega
  · obtain ⟨h1, h2, h3⟩ := h.apN y hy
    refine ⟨h1, fun q => ?_, h3⟩
    have := hg.lt y hy
    rcases hA y q with r | r
    · exact h2 r
    · omega
  · rcases hA y hy with r | r
    · exact h.apA y r
    · have := h.blt
      exact ⟨by omega, fun q => by have := (h.xlt y q).1; omega⟩
end
/-- A program that was parsed, in new memory (from block base on). -/
def ProgM (w : World) (base : Nat) (NA : Option Addr) (nc : Nat) (ns : List ENode) (AA : Option Addr) (ac : Nat) (as_ : List EAssign) : Prop :=
  Grow w base 48 2 AA as_.length ac (rAss as_) ∧ (∃ cs, Grow w base 70 4 NA ns.length nc cs ∧ NodesC w (gOf NA ++ gOf AA ++ List.range base) cs ns ∧ ApartC cs ns.length) ∧ (∀ x, x ∈ gOf NA → x ∉ gOf AA) ∧ ns.length ≤ 60 ∧ as_.length ≤ 1048576
theorem ProgM.nil (w : World) (base : Nat) : ProgM w base none 0 [] none 0 [] := ⟨Grow.nil _ _ _ _, ⟨[], Grow.nil _ _ _ _, NodesC.nil _ _ _, ApartC.nil _⟩, (fun x hx => by cases hx), by simp, by simp⟩
theorem PMem.progM {w : World} {B base : Nat} {TA : Option Addr} {tc : Nat} {T : List ETok} {AA : Option Addr} {ac : Nat} {as_ : List EAssign} {NA : Option Addr} {nc : Nat} {ns : List ENode} (h : PMem w B base TA tc T AA ac as_ (List.range base) NA nc ns) (ha : as_.length ≤ 1048576) : ProgM w base NA nc ns AA ac as_ := by
  obtain ⟨cs, hg, hn, hp⟩ := h.nod
  exact ⟨h.ass, ⟨cs, hg, hn.set_ (fun y hy => .inl (by simp only [List.mem_cons, List.mem_append] at hy ⊢; rcases hy with (q | q) | q <;> simp [q])), hp⟩, fun x hx => (h.apN x hx).2.1, h.cap, ha⟩
theorem ProgM.mono {w : World} {base b : Nat} {NA : Option Addr} {nc : Nat} {ns : List ENode} {AA : Option Addr} {ac : Nat} {as_ : List EAssign} (h : ProgM w base NA nc ns AA ac as_) (hb : b ≤ base) : ProgM w b NA nc ns AA ac as_ := by
  obtain ⟨h1, ⟨cs, hg, hn, hp⟩, h3, h4, h5⟩ := h
  exact ⟨h1.mono hb, ⟨cs, hg.mono hb, hn.set_ (fun y hy => .inl (by simp only [List.mem_append, List.mem_range] at hy ⊢; rcases hy with (q | q) | q; simp [q]; simp [q]; right; omega)), hp⟩, h3, h4, h5⟩
/-- What Parse leaves. -/
def OutParse (src : List UInt8) (w : World) (e : Ending) (w' : World) : Prop :=
  ∃ NA nc AA ac, e = .returned (.tuple #[.agg #[.slice NA (parF src).1.1.length nc, .slice AA (parF src).1.2.length ac], .int .i64 (parF src).2]) ∧ ProgM w' w.heap.size NA nc (parF src).1.1 AA ac (parF src).1.2 ∧ Below w.heap.size w w'
theorem OutParse.mk_ {src : List UInt8} {w w' : World} {NA : Option Addr} {nc : Nat} {AA : Option Addr} {ac : Nat} {ns : List ENode} {as_ : List EAssign} {o : Int} {n m : Nat} (h : parF src = ((ns, as_), o)) (hn : n = ns.length) (hm : m = as_.length) (hp : ProgM w' w.heap.size NA nc ns AA ac as_) (hb : Below w.heap.size w w') :
    OutParse src w (.returned (.tuple #[.agg #[.slice NA n nc, .slice AA m ac], .int .i64 o])) w' := by
  subst hn; subst hm
  unfold OutParse
  rw [h]
  exact ⟨NA, nc, AA, ac, rfl, hp, hb⟩
end Go.Proofs.YtnlbojckobgjpaaGreatDoor
