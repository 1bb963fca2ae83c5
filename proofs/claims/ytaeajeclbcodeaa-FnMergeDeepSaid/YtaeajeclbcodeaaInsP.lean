/- Copying within a row of elements of several cells: as a law for the walk. -/
import Derived.Test.YtaeajeclbcodeaaApp
import Derived.Test.YtaeajeclbcodeaaCursor
import Derived.Laws.CopyOwn
namespace Go.Proofs.Ytaeajeclbcodeaa
open Go.RowKit
set_option linter.unusedVariables false
section
variable {P : Program}
theorem run_copy_wide (w : World) (dT sT ty elem : TypeId) (g o dLen dCap : Nat) (a : Addr) (sLen sCap size : Nat) (cur : Array Value) (t : TypeId) (cs : List Value)
    (hu : P.underlying dT = some (.slice elem)) (hs : (P.info? elem).map (·.size) = some size)
    (hg : w.heap[g]? = some (.cells cur t (0, 0))) (hn : cs.length = Nat.min sLen dLen * size)
    (hsrc : ∀ j v, cs[j]? = some v → w.cell? (a.add j) = some v) (hfit : o + cs.length ≤ cur.size) (h1 : ∀ v ∈ cs, v.oneCell' = true) :
    (Builtin.copy_ #[dT, sT] ty #[.slice (some ⟨g, o, none⟩) dLen dCap, .slice (some a) sLen sCap]).run P w =
      .ok (goInt (Nat.min sLen dLen)) (w.setRow g (cur.toList.take o ++ cs ++ cur.toList.drop (o + cs.length)).toArray) := by
  have hl := run_loadCells_list (P := P) w a cs hsrc
  have hst := run_storeCells_at P g o t cs 0 cur w hg (by simpa using hfit) h1
  cases hq : P.info? elem with
  | none => simp [hq] at hs
  | some i =>
    have hi : i.size = size := by simpa [hq] using hs
    simp [Builtin.copy_, run_underlying hu, Builtin.lenOf, Builtin.firstCells, sizeOf, typeInfo, hq, hi, ← hn, hl, hst]
theorem run_copy_zero (w : World) (dT sT ty elem : TypeId) (d a : Option Addr) (dCap sLen sCap size : Nat) (hu : P.underlying dT = some (.slice elem)) (hs : (P.info? elem).map (·.size) = some size) :
    (Builtin.copy_ #[dT, sT] ty #[.slice d 0 dCap, .slice a sLen sCap]).run P w = .ok (goInt 0) w := by
  cases hq : P.info? elem with
  | none => simp [hq] at hs
  | some i =>
    have hl : ∀ (x : Addr), (loadCells x 0).run P w = .ok #[] w := fun x => by simpa using run_loadCells_list (P := P) w x [] (by simp)
    cases d <;> cases a <;> simp [Builtin.copy_, run_underlying hu, Builtin.lenOf, Builtin.firstCells, sizeOf, typeInfo, hq, storeCells, hl]
/-- 'copy(row[k+1:], row[k:])': the part B from place k on moves up by one element. -/
theorem wpList_shift {ops : Array Oper} {rest : List Oper} {o : Oper} {a : Act} {w : World} {Q : Exit → Act → World → Prop} (hgd : o.guard = none) (d s : Operand) (dT sT : TypeId)
    (ho : o.op = .call { callee := .builtin .copy, args := #[d, s], argTypes := #[dT, sT] }) (elem : TypeId) (hu : P.underlying dT = some (.slice elem)) (size : Nat) (hsz : (P.info? elem).map (·.size) = some size)
    (dp sp : Option Addr) (m dCap sLen sCap : Nat) (hd : a.eval d = .slice dp m dCap) (hs : a.eval s = .slice sp sLen sCap)
    (g : Nat) (t : TypeId) (A B F ds : List Value) (hO : Own w g t (A ++ (B ++ F) ++ ds)) (hF : F.length = size) (hB : B.length = m * size) (hm : sLen = m + 1)
    (hpos : 0 < m → dp = some ⟨g, A.length + size, none⟩ ∧ sp = some ⟨g, A.length, none⟩) (h1 : ∀ v ∈ B, v.oneCell' = true)
    (h : ∀ w', Own w' g t (A ++ ((B ++ F).take size ++ B) ++ ds) → Only w.heap.size [g] w w' → wpList P ops Q rest (a.put o.dst (goInt m)) w') :
    wpList P ops Q (o :: rest) a w := by
  subst hm
  refine wpList_plain hgd fun K hK => ?_
  rcases Nat.eq_zero_or_pos m with h0 | h0
  · subst h0
    have hrun := run_copy_zero (P := P) w dT sT o.type elem dp sp dCap (0 + 1) sCap size hu hsz
    have hb : B = [] := List.eq_nil_of_length_eq_zero (by simpa using hB)
    subst hb
    have e : A ++ (([] ++ F).take size ++ []) ++ ds = A ++ ([] ++ F) ++ ds := by simp [List.take_of_length_le (Nat.le_of_eq hF)]
    unfold Oper.wp
    simp only [execOp, ho, resolve, invoke, builtin, Sem.run_bind, Sem.run_pure, Result.andThen_ok, List.map_toArray, List.map_cons, List.map_nil, hd, hs, hrun]
    exact hK _ _ (h w (by rw [e]; exact hO) (Only.refl _ _ _))
  · obtain ⟨rfl, rfl⟩ := hpos h0
    have hmin : Nat.min (m + 1) m = m := Nat.min_eq_right (by omega)
    have hrun := run_copy_wide (P := P) w dT sT o.type elem g (A.length + size) m dCap ⟨g, A.length, none⟩ (m + 1) sCap size (A ++ (B ++ F) ++ ds).toArray t B hu hsz hO (by rw [hmin, hB]) (fun j v hv => by
      have hj : j < B.length := by
        rcases Nat.lt_or_ge j B.length with h | h
        · exact h
        · rw [List.getElem?_eq_none h] at hv; cases hv
      have hadd : (Addr.mk g A.length none).add j = ⟨g, A.length + j, none⟩ := by
        unfold Addr.add; split
        · rename_i h; subst h; rfl
        · rfl
      rw [hadd, hO.cell, List.append_assoc, List.getElem?_append_right (by omega), show A.length + j - A.length = j by omega, List.append_assoc, List.getElem?_append_left hj, hv]) (by simp; omega) h1
    rw [hmin] at hrun
    have e : ((A ++ (B ++ F) ++ ds).take (A.length + size) ++ B ++ (A ++ (B ++ F) ++ ds).drop (A.length + size + B.length)) = A ++ ((B ++ F).take size ++ B) ++ ds := by
      have e1 : (A ++ (B ++ F) ++ ds).take (A.length + size) = A ++ (B ++ F).take size := by
        rw [List.append_assoc, List.take_length_add_append, List.take_append_of_le_length (by simp; omega)]
      have e2 : (A ++ (B ++ F) ++ ds).drop (A.length + size + B.length) = ds := by
        have : A.length + size + B.length = (A ++ (B ++ F)).length := by simp; omega
        rw [this, List.drop_left]
      rw [e1, e2]; simp
    unfold Oper.wp
    simp only [execOp, ho, resolve, invoke, builtin, Sem.run_bind, Sem.run_pure, Result.andThen_ok, List.map_toArray, List.map_cons, List.map_nil, hd, hs, hrun]
    refine hK _ _ (h _ ?_ ⟨rfl, rfl, rfl, by simp [World.setRow], fun x hx hg => setRow_other w g x _ (by simpa using hg)⟩)
    have e' : ((A ++ (B ++ F) ++ ds).toArray.toList.take (A.length + size) ++ B ++ (A ++ (B ++ F) ++ ds).toArray.toList.drop (A.length + size + B.length)).toArray = (A ++ ((B ++ F).take size ++ B) ++ ds).toArray := congrArg List.toArray e
    rw [e']
    exact setRow_heap w g _ _ t (0, 0) hO
end
theorem set_seg {A X B : List Value} {n : Nat} {v : Value} (i : Nat) (h : i < X.length) : (A ++ X ++ B).set (A.length + i) v = A ++ X.set i v ++ B := by
  rw [List.append_assoc, List.set_append_right _ _ (by omega), show A.length + i - A.length = i by omega, List.set_append_left _ _ h, List.append_assoc]
theorem Grow.of_parts {w : World} {base g n c size : Nat} {e : TypeId} {xs ds : List Value} (h : Own w g e (xs ++ ds)) (hl : xs.length = n * size) (hd : (xs ++ ds).length = c * size) (hb : base ≤ g) (hn : n ≤ c) (hc : c ≤ maxLen) : Grow w base e size (some ⟨g, 0, none⟩) n c xs := by
  refine ⟨hl, .inr ⟨g, c, ⟨xs ++ ds⟩, rfl, hb, h, hn, hc, hd, ?_⟩⟩
  rw [← hl]; exact List.take_left
theorem Grow.parts {w : World} {base n c size : Nat} {A : Option Addr} {e : TypeId} {xs : List Value} (h : Grow w base e size A n c xs) (h0 : 0 < n) : ∃ g ds, A = some ⟨g, 0, none⟩ ∧ base ≤ g ∧ Own w g e (xs ++ ds) ∧ n ≤ c ∧ c ≤ maxLen ∧ (xs ++ ds).length = c * size := by
  rcases h.shape with ⟨_, h1, _⟩ | ⟨g, cur, rfl, hb, hg, h1, h2, h3, h4⟩
  · omega
  · have e1 : xs ++ cur.toList.drop (n * size) = cur.toList := by rw [← h4, List.take_append_drop]
    refine ⟨g, cur.toList.drop (n * size), rfl, hb, ?_, h1, h2, ?_⟩
    · unfold Own; rw [e1]; exact hg
    · rw [e1]; simpa using h3
theorem adr_eq {p a b : Nat} (h : a = b) : (some ⟨p, a, none⟩ : Option Addr) = some ⟨p, b, none⟩ := by rw [h]
theorem set5 {A B X : List Value} {n : Nat} (hA : A.length = n) (hX : X.length = 5) (v0 v1 v2 v3 v4 : Value) : (((((A ++ (X ++ B)).set n v0).set (n + 1) v1).set (n + 2) v2).set (n + 3) v3).set (n + 4) v4 = A ++ ([v0, v1, v2, v3, v4] ++ B) := by
  subst hA
  match X, hX with
  | [x0, x1, x2, x3, x4], _ =>
    rw [List.set_append_right _ _ (by omega), List.set_append_right _ _ (by omega), List.set_append_right _ _ (by omega), List.set_append_right _ _ (by omega), List.set_append_right _ _ (by omega)]
    rw [show A.length - A.length = 0 by omega, show A.length + 1 - A.length = 1 by omega, show A.length + 2 - A.length = 2 by omega, show A.length + 3 - A.length = 3 by omega, show A.length + 4 - A.length = 4 by omega]
    rfl
end Go.Proofs.Ytaeajeclbcodeaa
