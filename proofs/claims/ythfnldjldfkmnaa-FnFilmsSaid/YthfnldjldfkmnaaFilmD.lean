/- Drawn films: the buckets of a camera, values, and the drawn film. -/
import Derived.Test.YthfnldjldfkmnaaDraws
import Derived.Test.YthfnldjldfkmnaaApp
import Derived.Test.YthfnldjldfkmnaaPairs
import Derived.Test.YthfnldjldfkmnaaPutBS
import Derived.Test.YthfnldjldfkmnaaNewFilm
import Derived.Test.YthfnldjldfkmnaaMissP
import Derived.Test.YthfnldjldfkmnaaFilmLaw
import Derived.Deep.DeepCutAuto
namespace Go.Proofs.Ythfnldjldfkmnaa
open Go.RowKit
set_option linter.unusedVariables false
set_option maxRecDepth 100000
/-- A bucket that is drawn of a small camera. -/
def okBuck (x : EBucket) : Prop := ((0 ≤ x.1 ∧ x.1 ≤ 12) ∧ 0 ≤ x.2.1 ∧ x.2.1 ≤ 12) ∧ (1 ≤ x.2.2.1 ∧ x.2.2.1 ≤ 2) ∧ 1 ≤ x.2.2.2 ∧ x.2.2.2 ≤ 2
def okBuckL (l : List EBucket) : Prop := ∀ x, x ∈ l → okBuck x
theorem okBuckL.snoc {l : List EBucket} {x : EBucket} (h : okBuckL l) (hx : okBuck x) : okBuckL (l ++ [x]) := fun z hz => by
  rcases List.mem_append.1 hz with hz | hz
  · exact h z hz
  · simp only [List.mem_cons, List.not_mem_nil, or_false] at hz
    subst hz; exact hx
theorem rBucket_one (l : List EBucket) : ∀ u ∈ rBucket l, u.oneCell' = true := by
  intro u hu
  simp only [rBucket, rowOf, List.mem_flatMap] at hu
  obtain ⟨f, _, hf⟩ := hu
  simp [cBucket] at hf
  rcases hf with h | h | h | h <;> subst h <;> rfl
theorem T.infoBucket : (Try.prog.info? 55).map (fun i => (i.zero, i.size, i.bytes)) = some (some (.agg #[.int .i64 0, .int .i64 0, .int .i64 0, .int .i64 0]), 4, 32) := by kernel_rfl
theorem rBucket_app (a b : List EBucket) : rBucket (a ++ b) = rBucket a ++ rBucket b := by simp [rBucket, rowOf]
set_option maxHeartbeats 16000000 in
theorem S_bucketsOf {a b : Nat} {x y u v : Int} {e : Bool} (w : World) (hc : validCam a b x y u v = true) (ha : 2 ≤ a ∧ a ≤ 5) (hb : 2 ≤ b ∧ b ≤ 5) :
    Calls Try.prog 178 #[vCamera a b x y e u v, .int .i64 2] w fun r w' => ∃ (l : List EBucket) (Q : Option Addr) (d : Nat), r = .returned (.slice Q l.length d) ∧ l.length ≤ 1000 ∧ okBuckL l ∧ RS w' 4 Q l.length d (rBucket l) ∧ (∀ x, x ∈ gOf Q → w.heap.size ≤ x) ∧ Below w.heap.size w w' := by
  obtain ⟨a1, a2⟩ := ha
  obtain ⟨b1, b2⟩ := hb
  have i2 : inB 2 1 12 = true := rfl
  go_enter Try.func178, Try.ntmps178
  go_wp2_with fail
  refine (S_IsValidCamera _).mono ?_
  rintro e1 w1 ⟨rfl, hb1⟩
  have hz1 := hb1.size
  (try simp at hz1)
  have z10 : w.heap.size < w1.heap.size := by omega
  have z11 : w.heap.size + 1 < w1.heap.size := by omega
  have HX : Hid (Box w1 w.heap.size [.int .i64 a, .int .i64 b, .int .i64 x, .int .i64 y, .bool e, .int .i64 u, .int .i64 v]) := Lib.hid (Box.of_own (Own.step hb1 (Own.alloc (Own.new w 45 #[.int .i64 a, .int .i64 b, .int .i64 x, .int .i64 y, .bool e, .int .i64 u, .int .i64 v]) _)))
  have hB1 : Below w.heap.size w w1 := (by repeat (first | (with_reducible exact Below.refl _ _) | (with_reducible assumption) | ((with_reducible refine Below.alloc ?_ ?_ _); rotate_left; (first | omega | (simp <;> omega))) | ((with_reducible refine Below.setCell ?_ ?_ _); rotate_left; (first | omega | (simp <;> omega))) | (with_reducible refine below_drewN ?_ _) | (with_reducible refine Below.drew ?_) | ((with_reducible refine Below.step (by assumption) ?_ ?_); rotate_left; (first | omega | (simp <;> omega)))))
  have HB1 := Lib.hid hB1
  clear hB1
  have HG0 : Hid (Grow w1 (w.heap.size + 1) 55 4 (some ⟨w.heap.size + 1, 0, none⟩) 0 0 (rBucket [])) := Grow.step hb1 (Grow.lit_at (cs := #[]) (n := 0) (by simp) rfl (by simp) (Nat.zero_le _))
  clear hb1
  go_wp2_with (first | (go_at_call 117; refine (S_in _ _ _ _).mono ?_; rintro e w' ⟨rfl, rfl⟩) | fail)
  clear hc
  go_loopw [5, 6, 7] (fun t r _ wr => ∃ (yn : Nat) (l : List EBucket) (Q : Option Addr) (d : Nat), yn ≤ b + 1 ∧ r = .int .i64 yn ∧ t = .slice Q l.length d ∧ l.length ≤ 12 * yn ∧ okBuckL l ∧ Grow wr (w.heap.size + 1) 55 4 Q l.length d (rBucket l) ∧ Below (w.heap.size + 1) w1 wr) (fun _ r _ _ => 7 - (intOf r).toNat)
  case atStart => exact ⟨0, [], _, _, Nat.zero_le _, rfl, rfl, Nat.zero_le _, fun x hx => absurd hx (by simp), HG0.out, Below.refl _ _⟩
  case round =>
    obtain ⟨wo, rfl⟩ : ∃ wo, wo = wr := ⟨_, rfl⟩
    obtain ⟨yn, l, Q, d, hyn, rfl, rfl, hl, hin, hg, hb⟩ := hrel
    have hz := hb.size
    have HGr := Lib.hid hg
    have HB := Lib.hid hb
    have HIN := Lib.hid hin
    have HXo := Lib.hid (Box.mk2 (v0 := .int .i64 a) (v1 := .int .i64 b) (w := wo) (b := w.heap.size) (by omega) (by rw [hb.cell (p := ⟨w.heap.size, 0, none⟩) (by simp)]; exact HX.out.open7.2.1) (by rw [hb.cell (p := ⟨w.heap.size, 1, none⟩) (by simp)]; exact HX.out.open7.2.2.1))
    obtain ⟨z0, c0, c1⟩ := HXo.out.open2
    have y0' : IntKind.i64.wrap ((yn : Int) + 2) = (yn : Int) + 2 := IntWalk.i64_in _ (by omega)
    clear hg hb hin
    by_cases hlt : yn < b
    · have h1 : (yn : Int) < b := by omega
      have HREL : Hid (yn + 2 ≤ b + 1) := by show yn + 2 ≤ b + 1; omega
      have HHN : Hid (∀ t : Nat, t ≤ 12 * yn + 13 → t ≤ 12 * (yn + 2)) := fun t ht => by omega
      have HLN := Lib.hid hl
      clear hl
      go_wp2_with fail
      go_loopw [5, 7] (fun t q wr => ∃ (xn : Nat) (l : List EBucket) (Q : Option Addr) (d : Nat), xn ≤ a + 1 ∧ q = .int .i64 xn ∧ t = .slice Q l.length d ∧ l.length ≤ 12 * yn + xn ∧ okBuckL l ∧ Grow wr (w.heap.size + 1) 55 4 Q l.length d (rBucket l) ∧ Below (w.heap.size + 1) w1 wr) (fun _ q _ => 7 - (intOf q).toNat)
      case atStart => exact ⟨0, l, _, _, Nat.zero_le _, rfl, rfl, HLN.out, HIN.out, HGr.out, HB.out⟩
      case round =>
        obtain ⟨xn, l2, Q2, d2, hxn, rfl, rfl, hl2, hin2, hg2, hb2⟩ := hrel
        have hz2 := hb2.size
        have HGr2 := Lib.hid hg2
        have HB2 := Lib.hid hb2
        have HIN2 := Lib.hid hin2
        have HL2 := Lib.hid hl2
        have HX2 := Lib.hid (Box.mk2 (v0 := .int .i64 a) (v1 := .int .i64 b) (w := wr) (b := w.heap.size) (by omega) (by rw [hb2.cell (p := ⟨w.heap.size, 0, none⟩) (by simp)]; exact HX.out.open7.2.1) (by rw [hb2.cell (p := ⟨w.heap.size, 1, none⟩) (by simp)]; exact HX.out.open7.2.2.1))
        obtain ⟨z0, k0, k1⟩ := HX2.out.open2
        have y1' : IntKind.i64.wrap ((xn : Int) + 2) = (xn : Int) + 2 := IntWalk.i64_in _ (by omega)
        have y2' : IntKind.i64.wrap ((a : Int) - (xn : Int)) = (a : Int) - (xn : Int) := IntWalk.i64_in _ (by omega)
        have y3' : IntKind.i64.wrap ((b : Int) - (yn : Int)) = (b : Int) - (yn : Int) := IntWalk.i64_in _ (by omega)
        have hlm : l2.length ≤ 1000 := by omega
        clear hg2 hb2 hin2 hl2
        by_cases hlt2 : xn < a
        · have h2 : (xn : Int) < a := by omega
          have HOK : Hid (okBuck ((xn : Int), (yn : Int), min 2 ((a : Int) - (xn : Int)), min 2 ((b : Int) - (yn : Int)))) := by
            refine Lib.hid ⟨⟨⟨?_, ?_⟩, ?_, ?_⟩, ⟨?_, ?_⟩, ?_, ?_⟩ <;> (show (_ : Int) ≤ _; simp only []; omega)
          have HL3 : Hid (l2.length + 1 ≤ 12 * yn + (xn + 2)) := by have := HL2.out; show _ ≤ _; omega
          have HM1 : Hid (∀ wx, Calls Try.prog 192 #[.int .i64 2, .int .i64 ((a : Int) - (xn : Int))] wx fun e w' => e = .returned (.int .i64 (min 2 ((a : Int) - (xn : Int)))) ∧ wx = w') := fun wx => S_min _ _ _
          have HM2 : Hid (∀ wx, Calls Try.prog 192 #[.int .i64 2, .int .i64 ((b : Int) - (yn : Int))] wx fun e w' => e = .returned (.int .i64 (min 2 ((b : Int) - (yn : Int)))) ∧ wx = w') := fun wx => S_min _ _ _
          generalize min 2 ((a : Int) - (xn : Int)) = mw at *
          generalize min 2 ((b : Int) - (yn : Int)) = mh at *
          go_wp2_with fail
          go_region_held3 (fun w' => w'.cell? ⟨w.heap.size, 0, none⟩ = some (.int .i64 a) ∧ w'.cell? ⟨w.heap.size, 1, none⟩ = some (.int .i64 b))
            (first | ((try dsimp only); refine ⟨?_, ?_⟩ <;> (go_simp; done)) | go_keep)
            (first | (go_at_call 192; (with_reducible refine (HM1.out _).mono ?_); rintro e w' ⟨rfl, rfl⟩) | (go_at_call 192; (with_reducible refine (HM2.out _).mono ?_); rintro e w' ⟨rfl, rfl⟩) | (refine step_app (by rfl) _ _ 108 (by rfl) (w.heap.size + 1) 55 (.agg #[.int .i64 0, .int .i64 0, .int .i64 0, .int .i64 0]) 4 32 Try.underlying108 T.infoBucket rfl (by decide) (xs := rBucket l2) (by rfl) ?_ (ys := rBucket [((xn : Int), (yn : Int), mw, mh)]) (by rfl) ?_ (rBucket_one _) ?_ ?_ ?_ ?_; (exact (by repeat (first | (with_reducible exact HGr2.out) | (with_reducible refine Grow.alloc ?_ _) | (with_reducible refine Grow.drewN ?_ _) | (with_reducible refine Grow.drew ?_) | ((with_reducible refine Grow.far ?_ ?_ _); rotate_left; (first | omega | (simp <;> omega))) | (with_reducible refine Grow.step (by assumption) ?_)))); (exact (Grow.rs (base := 0) (n := 1) (c := 1) (by repeat (first | (with_reducible refine Grow.drewN ?_ _) | (with_reducible refine Grow.drew ?_) | (refine Grow.lit_at (by simp) (by rfl) (Nat.zero_le _) (by unfold maxLen; omega)))))); (unfold maxLen; omega); (omega); (first | omega | (simp <;> omega)); rintro A' c' w2 gA; have cc := fun o => gA.2.1.cell (p := ⟨w.heap.size, o, none⟩) (by first | omega | (simp <;> omega)); have HGA := Lib.hid gA.1; have hBA : Below (w.heap.size + 1) w1 w2 := Below.trans (by repeat (first | (with_reducible exact Below.refl _ _) | (with_reducible exact HB2.out) | (with_reducible assumption) | ((with_reducible refine Below.alloc ?_ ?_ _); rotate_left; (first | omega | (simp <;> omega))) | ((with_reducible refine Below.setCell ?_ ?_ _); rotate_left; (first | omega | (simp <;> omega))) | (with_reducible refine below_drewN ?_ _) | (with_reducible refine Below.drew ?_) | ((with_reducible refine Below.step (by assumption) ?_ ?_); rotate_left; (first | omega | (simp <;> omega))))) gA.2.1; have HBA := Lib.hid hBA; clear gA hBA) | fail)
          all_goals
            go_wp2_with fail
            go_roundw
            case rel => exact ⟨xn + 2, l2 ++ [((xn : Int), (yn : Int), mw, mh)], _, _, by omega, by go_num, by rw [List.length_append]; rfl, by rw [List.length_append]; exact HL3.out, HIN2.out.snoc HOK.out, by rw [List.length_append, rBucket_app]; exact HGA.out, HBA.out⟩
            case measure => simp [intOf]; omega
        · have h2 : ¬ (xn : Int) < a := by omega
          go_wp2_with fail
          go_roundw
          case rel => exact ⟨yn + 2, l2, Q2, d2, HREL.out, by go_num, rfl, HHN.out _ (by have := HL2.out; omega), HIN2.out, HGr2.out, HB2.out⟩
          case measure => simp [intOf]; omega
    · have h1 : ¬ (yn : Int) < b := by omega
      go_wp2_with fail
      go_ret
      exact ⟨l, Q, d, rfl, by omega, HIN.out, HGr.out.rs, fun x hx => by have := HGr.out.ge x hx; omega, HB1.out.trans (HB.out.mono (by omega))⟩
theorem S_putN {W H x y p q : Int} {A B C : Option Addr} {c d f N : Nat} {s : List Int} {t : List Bool} {l : List Int} (w : World) (hs : s.length = N) (ht : t.length = N) (hN : N ≤ 1000) (h : RS w 1 A N c (ints s)) (h2 : RS w 1 B N d (bools t)) (h3 : RS w 1 C l.length f (ints l)) :
    Calls Try.prog 73 #[vFilm W H (.slice A N c) (.slice B N d), vBucket x y p q, .slice C l.length f] w fun e w' => ∃ (ok : Bool) (Q1 Q2 : Option Addr) (j1 j2 : Nat), e = .returned (.tuple #[vFilm W H (.slice Q1 N j1) (.slice Q2 N j2), .bool ok]) ∧ RS w' 1 Q1 N j1 (ints (putS W H s t x y p q l)) ∧ RS w' 1 Q2 N j2 (bools (putT W H s t x y p q l)) ∧ (∀ x, x ∈ gOf Q1 → w.heap.size ≤ x) ∧ (∀ x, x ∈ gOf Q2 → w.heap.size ≤ x) ∧ Below w.heap.size w w' := by
  subst hs
  have := S_PutBucket (W := W) (H := H) (x := x) (y := y) (p := p) (q := q) (s := s) (t := t) (l := l) w (by omega) (by omega) h (by rw [ht]; exact h2) h3
  rw [ht] at this
  refine this.mono ?_
  rintro e w' ⟨Q1, j1, Q2, j2, rfl, u1, u2, ge1, ge2, _, hb⟩
  exact ⟨_, Q1, Q2, j1, j2, rfl, u1.rs, u2.rs, ge1, ge2, hb⟩
def lenOf : Value → Nat
  | .slice _ n _ => n
  | _ => 0
theorem prod22 {p q : Int} (hp : 1 ≤ p ∧ p ≤ 2) (hq : 1 ≤ q ∧ q ≤ 2) : ∃ n : Nat, p * q = n ∧ n ≤ 4 := by
  have h1 : p = 1 ∨ p = 2 := by omega
  rcases h1 with rfl | rfl
  · exact ⟨(1 * q).toNat, by omega, by omega⟩
  · exact ⟨(2 * q).toNat, by omega, by omega⟩
/-- A film that was drawn. -/
def DrawnFilm (w : World) : Ending → World → Prop := fun e w' => ∃ (a b n : Nat) (s : List Int) (t : List Bool) (P1 P2 : Option Addr) (k1 k2 : Nat), e = .returned (vFilm a b (.slice P1 n k1) (.slice P2 n k2)) ∧ (2 ≤ a ∧ a ≤ 5) ∧ (2 ≤ b ∧ b ≤ 5) ∧ a * b = n ∧ s.length = n ∧ t.length = n ∧ validFilm a b s t = true ∧ RS w' 1 P1 n k1 (ints s) ∧ RS w' 1 P2 n k2 (bools t) ∧ (∀ x, x ∈ gOf P1 → w.heap.size < x) ∧ ∀ x, x ∈ gOf P2 → w.heap.size < x
set_option maxHeartbeats 16000000 in
theorem S_drawFilm {g c : Nat} {A : Option Addr} {l : List Int} (w : World) (h : Cur 200 w g A c l) :
    Calls Try.prog 149 #[.pointer (some ⟨g, 0, none⟩)] w fun e w' => DrawnFilm w e w' ∧ Cur 200 w' g A c l ∧ Only w.heap.size [g] w w' := by
  have hgl := h.lt
  have HC := Lib.hid h
  clear h
  have HK : Hid (Own (w.alloc (.cells #[.int .i64 0, .int .i64 0, .slice none 0 0, .slice none 0 0] 98)) w.heap.size 98 [.int .i64 0, .int .i64 0, .slice none 0 0, .slice none 0 0]) := Own.new _ _ _
  go_enter Try.func149, Try.ntmps149
  go_wp2_with fail
  refine (S_drawCamera _ (HC.out.alloc _)).mono ?_
  rintro e w1 ⟨a, b, cx, cy, ce, cu, cv, rfl, ⟨a1, a2⟩, ⟨b1, b2⟩, hvc, hc1, hO1⟩
  have hz1 := hO1.size
  (try simp at hz1)
  have HC1 := Lib.hid hc1
  have HV := Lib.hid hvc
  have HO1 := Lib.hid (Only.trans (Only.alloc (Only.refl w.heap.size [g] w) (Nat.le_refl _) _) hO1 (by simp) (fun x hx => hx))
  have HK1 := Lib.hid (hO1.own HK.out (by simp) (by simp; omega))
  have hab : a * b ≤ 5 * 5 := Nat.mul_le_mul a2 b2
  obtain ⟨N, hN⟩ : ∃ N, a * b = N := ⟨_, rfl⟩
  have HN := Lib.hid hN
  have hN25 : N ≤ 25 := by omega
  clear hc1 hO1 hab
  go_wp2_with fail
  refine (S_NewFilm (n := N) _ (fun _ => ⟨by rw [← HN.out]; simp, by omega⟩)).mono ?_
  rintro e w2 ⟨P1, j1, P2, j2, rfl, o1, o2, ge1, ge2, _, hb2⟩
  rw [hvc] at o1 o2 ⊢
  simp only [if_true] at o1 o2 ⊢
  have hz2 := hb2.size
  (try simp at hz2)
  (try simp at ge1)
  (try simp at ge2)
  have HC2 := Lib.hid ((HC1.out.alloc _).step hb2)
  have HO2 := Lib.hid (Only.trans (Only.alloc HO1.out (by omega) _) (Only.of_below hb2 [g]) (by simp; omega) (fun x hx => hx))
  have HK2 := Lib.hid ((HK1.out.alloc _).step hb2)
  have HX2 : Hid (Box w2 w1.heap.size [.int .i64 a, .int .i64 b, .int .i64 cx, .int .i64 cy, .bool ce, .int .i64 cu, .int .i64 cv]) := Lib.hid (Box.of_own (Own.step hb2 (Own.new w1 45 #[_, _, _, _, _, _, _])))
  have HG1 : Hid (∀ x, x ∈ gOf P1 → w.heap.size < x ∧ x < w2.heap.size) := fun x hx => by have := ge1 x hx; have := o1.lt x hx; omega
  have HG2 : Hid (∀ x, x ∈ gOf P2 → w.heap.size < x ∧ x < w2.heap.size) := fun x hx => by have := ge2 x hx; have := o2.lt x hx; omega
  have R1 := Lib.hid o1.rs
  have R2 := Lib.hid o2.rs
  have hlt3 : w1.heap.size < w2.heap.size := by omega
  have hz12 : w.heap.size < w1.heap.size := by omega
  generalize w1.heap.size = B3 at *
  clear hb2 o1 o2 ge1 ge2 hvc
  obtain ⟨zc, q0, q1, q2, q3, q4, q5, q6⟩ := HX2.out.open7
  have nB1 : ¬ B3 = w2.heap.size := by omega
  have nB2 : ¬ w2.heap.size = B3 := by omega
  go_wp2_with fail
  have HF2 : Hid (Own (w2.alloc (.cells #[.int .i64 a, .int .i64 b, .slice P1 N j1, .slice P2 N j2] 98)) w2.heap.size 98 [.int .i64 a, .int .i64 b, .slice P1 N j1, .slice P2 N j2]) := Own.new _ _ _
  refine (S_bucketsOf _ HV.out ⟨a1, a2⟩ ⟨b1, b2⟩).mono ?_
  rintro e w3 ⟨m, Q, d, rfl, hm, hok, hrs, hge, hb3⟩
  have hz3 := hb3.size
  (try simp at hz3)
  (try simp at hge)
  have HC3 := Lib.hid ((HC2.out.alloc _).step hb3)
  have HO3 := Lib.hid (Only.trans (Only.alloc HO2.out (by omega) _) (Only.of_below hb3 [g]) (by simp; omega) (fun x hx => hx))
  have HK3 := Lib.hid ((HK2.out.alloc _).step hb3)
  have HF3 := Lib.hid (HF2.out.step hb3)
  have R13 := Lib.hid (RS.step hb3 (R1.out.alloc _))
  have R23 := Lib.hid (RS.step hb3 (R2.out.alloc _))
  have HQ := Lib.hid hrs
  have HOK := Lib.hid hok
  have HQG : Hid (∀ x, x ∈ gOf Q → w2.heap.size < x) := fun x hx => by have := hge x hx; omega
  have HG13 : Hid (∀ x, x ∈ gOf P1 → w.heap.size < x ∧ x ≠ w2.heap.size) := fun x hx => by have := HG1.out x hx; omega
  have HG23 : Hid (∀ x, x ∈ gOf P2 → w.heap.size < x ∧ x ≠ w2.heap.size) := fun x hx => by have := HG2.out x hx; omega
  have hFw : w.heap.size < w2.heap.size := by omega
  clear hb3 hrs hok hge q0 q1 q2 q3 q4 q5 q6 zc HX2 HG1 HG2
  generalize w2.heap.size = F at *
  go_wp2_with fail
  go_loopw [7, 8, 19] (fun _ _ p wr => ∃ (k : Nat) (s : List Int) (t : List Bool) (P1 P2 : Option Addr) (j1 j2 : Nat), k ≤ m.length ∧ p = .int .i64 k ∧ s.length = N ∧ t.length = N ∧ validFilm a b s t = true ∧ Own wr F 98 [.int .i64 a, .int .i64 b, .slice P1 N j1, .slice P2 N j2] ∧ Own wr w.heap.size 98 [.int .i64 0, .int .i64 0, .slice none 0 0, .slice none 0 0] ∧ RS wr 1 P1 N j1 (ints s) ∧ RS wr 1 P2 N j2 (bools t) ∧ (∀ x, x ∈ gOf P1 → w.heap.size < x ∧ x ≠ F) ∧ (∀ x, x ∈ gOf P2 → w.heap.size < x ∧ x ≠ F) ∧ RS wr 4 Q m.length d (rBucket m) ∧ Cur 200 wr g A c l ∧ Only w.heap.size [g] w wr) (fun _ _ p _ => m.length - (intOf p).toNat)
  case atStart => exact ⟨0, zerosN N, falsesN N, P1, P2, j1, j2, Nat.zero_le _, rfl, by simp, by simp, validFilm_zero ⟨by omega, by omega⟩ ⟨by omega, by omega⟩ HN.out, HF3.out, HK3.out, R13.out, R23.out, HG13.out, HG23.out, HQ.out, HC3.out, HO3.out⟩
  case round =>
    obtain ⟨wo, rfl⟩ : ∃ wo, wo = wr := ⟨_, rfl⟩
    obtain ⟨k, s, t, S1, S2, i1, i2, hk, rfl, hs, ht, hv, hf, hkk, r1, r2, g1, g2, hq, hc, hO⟩ := hrel
    have hzo := hO.size
    have hFlt := hf.lt
    have HFo := Lib.hid hf
    have HKo := Lib.hid hkk
    have R1o := Lib.hid r1
    have R2o := Lib.hid r2
    have G1o := Lib.hid g1
    have G2o := Lib.hid g2
    have HQo := Lib.hid hq
    have HCo := Lib.hid hc
    have HOo := Lib.hid hO
    have HVo := Lib.hid (And.intro hs (And.intro ht hv))
    have y0' : IntKind.i64.wrap ((k : Int) + 1) = (k : Int) + 1 := IntWalk.i64_in _ (by omega)
    clear hf hkk r1 r2 g1 g2 hq hc hO hs ht hv
    by_cases hlt : k < m.length
    · have h1 : (k : Int) < m.length := by omega
      have h0 : (0 : Int) ≤ k := by omega
      obtain ⟨bq, oq, hQe, hbq, hcell⟩ := HQo.out.open_.2.2 (by omega)
      subst hQe
      obtain ⟨q0, q1, q2, q3⟩ := rBucket_at (l := m) hlt
      have k0 : wo.cell? ⟨bq, oq + k * 4, none⟩ = some (.int .i64 m[k].1) := by have := hcell (k * 4) (by omega); rw [q0] at this; exact this
      have k1 : wo.cell? ⟨bq, oq + k * 4 + 1, none⟩ = some (.int .i64 m[k].2.1) := by have := hcell (k * 4 + 1) (by omega); rw [q1] at this; exact this
      have k2 : wo.cell? ⟨bq, oq + k * 4 + 2, none⟩ = some (.int .i64 m[k].2.2.1) := by have := hcell (k * 4 + 2) (by omega); rw [q2] at this; exact this
      have k3 : wo.cell? ⟨bq, oq + k * 4 + 3, none⟩ = some (.int .i64 m[k].2.2.2) := by have := hcell (k * 4 + 3) (by omega); rw [q3] at this; exact this
      have hbk := HOK.out m[k] (List.getElem_mem hlt)
      clear hcell q0 q1 q2 q3
      generalize m[k] = f at *
      obtain ⟨f0, f1, f2, f3⟩ := f
      obtain ⟨⟨⟨f00, f01⟩, f10, f11⟩, ⟨f20, f21⟩, f30, f31⟩ := hbk
      simp only [] at f00 f01 f10 f11 f20 f21 f30 f31
      go_wp2_with fail
      refine (S_once _ (HCo.out.alloc _) (by omega)).mono ?_
      rintro e w4 ⟨x, rfl, hc4, hO4⟩
      have hz4 := hO4.size
      (try simp at hz4)
      have HC4 := Lib.hid hc4
      have HO4 := Lib.hid (Only.trans (Only.alloc HOo.out (by omega) _) hO4 (by simp; omega) (fun x hx => hx))
      have HB4 : Hid (Box w4 wo.heap.size [.int .i64 f0, .int .i64 f1, .int .i64 f2, .int .i64 f3]) := Lib.hid (Box.of_own (hO4.own (Own.new wo 55 #[_, _, _, _]) (by simp) (by simp; omega)))
      have HF4 := Lib.hid (hO4.own (HFo.out.alloc _) (by simp; omega) (by simp; omega))
      have HK4 := Lib.hid (hO4.own (HKo.out.alloc _) (by simp; omega) (by simp; omega))
      have R14 := Lib.hid (RS.only (R1o.out.alloc _) hO4 (Nat.le_refl _) (fun _ x hx => by have := G1o.out x hx; simp; omega))
      have R24 := Lib.hid (RS.only (R2o.out.alloc _) hO4 (Nat.le_refl _) (fun _ x hx => by have := G2o.out x hx; simp; omega))
      have HQ4 := Lib.hid (RS.only (HQo.out.alloc _) hO4 (Nat.le_refl _) (fun _ x hx => by have := HQG.out x hx; simp; omega))
      clear hc4 hO4 k0 k1 k2 k3
      cases x
      case false =>
        go_wp2_with fail
        go_roundw
        case rel => exact ⟨k + 1, s, t, S1, S2, i1, i2, by omega, by go_num, HVo.out.1, HVo.out.2.1, HVo.out.2.2, HF4.out, HK4.out, R14.out, R24.out, G1o.out, G2o.out, HQ4.out, HC4.out, HO4.out⟩
        case measure => simp [intOf]; omega
      case true =>
        have hwo : wo.heap.size < w4.heap.size := by omega
        have hF4 : F < w4.heap.size := by omega
        have hnF : ¬ F = wo.heap.size := by omega
        generalize wo.heap.size = M at *
        obtain ⟨pn, hpn, hp4⟩ := prod22 ⟨f20, f21⟩ ⟨f30, f31⟩
        have yP : IntKind.i64.wrap (f2 * f3) = (pn : Int) := by rw [hpn]; exact IntWalk.i64_in _ (by omega)
        clear hpn
        have HGV : Hid (Grow (w4.alloc (.cells #[] 3)) w4.heap.size 3 1 (some ⟨w4.heap.size, 0, none⟩) 0 0 (ints [])) := Grow.lit w4 #[] 0 rfl (Nat.le_refl _) (Nat.zero_le _)
        have HBV : Hid (Below w4.heap.size w4 (w4.alloc (.cells #[] 3))) := Below.alloc (Below.refl _ _) (Nat.le_refl _) _
        go_wp2_with fail
        go_loopw [8] (fun v wr => ∃ (z : List Int) (Z : Option Addr) (dz : Nat), v = .slice Z z.length dz ∧ z.length ≤ pn ∧ Grow wr w4.heap.size 3 1 Z z.length dz (ints z) ∧ Below w4.heap.size w4 wr) (fun v _ => pn - lenOf v)
        case atStart => exact ⟨[], _, _, rfl, Nat.zero_le _, HGV.out, HBV.out⟩
        case round =>
          obtain ⟨z, Z, dz, rfl, hzp, hgz, hbz⟩ := hrel
          have hzz := hbz.size
          obtain ⟨zb, d0, d1, d2, d3⟩ := HB4.out.open4
          have b0 : wr.cell? ⟨M, 0, none⟩ = some (.int .i64 f0) := by rw [hbz.cell (p := ⟨M, 0, none⟩) hwo]; exact d0
          have b1 : wr.cell? ⟨M, 1, none⟩ = some (.int .i64 f1) := by rw [hbz.cell (p := ⟨M, 1, none⟩) hwo]; exact d1
          have b2 : wr.cell? ⟨M, 2, none⟩ = some (.int .i64 f2) := by rw [hbz.cell (p := ⟨M, 2, none⟩) hwo]; exact d2
          have b3 : wr.cell? ⟨M, 3, none⟩ = some (.int .i64 f3) := by rw [hbz.cell (p := ⟨M, 3, none⟩) hwo]; exact d3
          clear d0 d1 d2 d3 zb
          have HGZ := Lib.hid hgz
          have HBZ := Lib.hid hbz
          have hzm : z.length ≤ 4 := by omega
          by_cases hzl : z.length < pn
          · have h2 : (z.length : Int) < pn := by omega
            have HL : Hid (z.length + 1 ≤ pn) := hzl
            clear hgz hbz
            have v1 : IntKind.i64.wrap (f0 * 31) = f0 * 31 := IntWalk.i64_in _ (by omega)
            have v2 : IntKind.i64.wrap (f1 * 17) = f1 * 17 := IntWalk.i64_in _ (by omega)
            have v3 : IntKind.i64.wrap (f0 * 31 + f1 * 17) = f0 * 31 + f1 * 17 := IntWalk.i64_in _ (by omega)
            have v4 : IntKind.i64.wrap ((z.length : Int) * 5) = (z.length : Int) * 5 := IntWalk.i64_in _ (by omega)
            have v5 : IntKind.i64.wrap (f0 * 31 + f1 * 17 + (z.length : Int) * 5) = f0 * 31 + f1 * 17 + (z.length : Int) * 5 := IntWalk.i64_in _ (by omega)
            have v6 : Int.tmod (f0 * 31 + f1 * 17 + (z.length : Int) * 5) 257 = (f0 * 31 + f1 * 17 + (z.length : Int) * 5) % 257 := Int.tmod_eq_emod_of_nonneg (by omega)
            have v7 : IntKind.i64.wrap ((f0 * 31 + f1 * 17 + (z.length : Int) * 5) % 257) = (f0 * 31 + f1 * 17 + (z.length : Int) * 5) % 257 := IntWalk.i64_in _ (by omega)
            go_wp2_with (first | (at_builtin; refine wpList_app (by rfl) _ _ 36 (by rfl) (w4.heap.size) 3 (.int .i64 0) 1 8 Try.underlying36 T.infoInt rfl (by decide) (xs := ints z) (by rfl) ?_ (ys := ints [(f0 * 31 + f1 * 17 + (z.length : Int) * 5) % 257]) (by rfl) ?_ (ints_one _) ?_ ?_ ?_ ?_; (exact (by repeat (first | (with_reducible exact HGZ.out) | (with_reducible refine Grow.alloc ?_ _) | (with_reducible refine Grow.drewN ?_ _) | (with_reducible refine Grow.drew ?_) | ((with_reducible refine Grow.far ?_ ?_ _); rotate_left; (first | omega | (simp <;> omega))) | (with_reducible refine Grow.step (by assumption) ?_)))); (exact (Grow.rs (base := 0) (n := 1) (c := 1) (by repeat (first | (with_reducible refine Grow.drewN ?_ _) | (with_reducible refine Grow.drew ?_) | (refine Grow.lit_at (by simp) (by rfl) (Nat.zero_le _) (by unfold maxLen; omega)))))); (unfold maxLen; omega); (omega); (first | omega | (simp <;> omega)); rintro A' c' w2 gA; have HGA := Lib.hid gA.1; have hBA : Below w4.heap.size w4 w2 := Below.trans (by repeat (first | (with_reducible exact Below.refl _ _) | (with_reducible exact HBZ.out) | (with_reducible assumption) | ((with_reducible refine Below.alloc ?_ ?_ _); rotate_left; (first | omega | (simp <;> omega))) | ((with_reducible refine Below.setCell ?_ ?_ _); rotate_left; (first | omega | (simp <;> omega))) | (with_reducible refine below_drewN ?_ _) | (with_reducible refine Below.drew ?_) | ((with_reducible refine Below.step (by assumption) ?_ ?_); rotate_left; (first | omega | (simp <;> omega))))) gA.2.1; have HBA := Lib.hid hBA; clear gA hBA) | fail)
            go_roundw
            case rel => exact ⟨z ++ [(f0 * 31 + f1 * 17 + (z.length : Int) * 5) % 257], _, _, by rw [List.length_append]; rfl, by rw [List.length_append]; exact HL.out, by rw [List.length_append]; have := HGA.out; rw [← List.map_append] at this; exact this, HBA.out⟩
            case measure => simp [lenOf]; omega
          · have h2 : ¬ (z.length : Int) < pn := by omega
            have RZ := Lib.hid hgz.rs
            have HF5 := Lib.hid (HF4.out.step hbz)
            have HK5 := Lib.hid (HK4.out.step hbz)
            have R15 := Lib.hid (RS.step hbz R14.out)
            have R25 := Lib.hid (RS.step hbz R24.out)
            have HQ5 := Lib.hid (RS.step hbz HQ4.out)
            have HC5 := Lib.hid (HC4.out.step hbz)
            have HO5 := Lib.hid (Only.trans HO4.out (Only.of_below hbz [g]) (by omega) (fun x hx => hx))
            have e0 := HF5.out.cell 0
            have e1 := HF5.out.cell 1
            have e2 := HF5.out.cell 2
            have e3 := HF5.out.cell 3
            have ef := HF5.out.frozen
            simp only [List.getElem?_cons_zero, List.getElem?_cons_succ] at e0 e1 e2 e3
            clear hgz hbz
            go_wp2_with fail
            refine (S_putN (N := N) (l := z) _ HVo.out.1 HVo.out.2.1 (by omega) R15.out R25.out RZ.out).mono ?_
            rintro e w6 ⟨ok, T1, T2, l1, l2, rfl, u1, u2, ge1, ge2, hb6⟩
            have hz6 := hb6.size
            have hf6 := HF5.out.step hb6
            have p0 := hf6.cell 0
            have p1 := hf6.cell 1
            have p2 := hf6.cell 2
            have p3 := hf6.cell 3
            have pf := hf6.frozen
            have pl := hf6.lt
            simp only [List.getElem?_cons_zero, List.getElem?_cons_succ] at p0 p1 p2 p3
            have HF6 := Lib.hid hf6
            have HK6 := Lib.hid (HK5.out.step hb6)
            have U1 := Lib.hid u1
            have U2 := Lib.hid u2
            have HQ6 := Lib.hid (RS.step hb6 HQ5.out)
            have HC6 := Lib.hid (HC5.out.step hb6)
            have HO6 := Lib.hid (Only.trans HO5.out (Only.of_below hb6 [g]) (by omega) (fun x hx => hx))
            have G1 : Hid (∀ x, x ∈ gOf T1 → w.heap.size < x ∧ x ≠ F) := fun x hx => by have := ge1 x hx; omega
            have G2 : Hid (∀ x, x ∈ gOf T2 → w.heap.size < x ∧ x ≠ F) := fun x hx => by have := ge2 x hx; omega
            clear hb6 u1 u2 hf6 ge1 ge2
            go_wp2_with fail
            go_roundw
            case rel =>
              refine ⟨k + 1, putS a b s t f0 f1 f2 f3 z, putT a b s t f0 f1 f2 f3 z, T1, T2, l1, l2, by omega, by go_num, by rw [putS_len]; exact HVo.out.1, by rw [putT_len]; exact HVo.out.2.1, validFilm_put HVo.out.2.2, ?_, ?_, ?_, ?_, G1.out, G2.out, ?_, ?_, ?_⟩
              · exact Own.set_ (Own.set_ (Own.set_ (Own.set_ HF6.out 0 _) 1 _) 2 _) 3 _
              · exact (by repeat (first | (with_reducible exact HK6.out) | ((with_reducible refine Own.far ?_ ?_ _); rotate_left; (first | omega | (simp <;> omega))) | (with_reducible refine Own.alloc ?_ _) | (with_reducible refine Own.drewN ?_ _) | (with_reducible refine Own.drew ?_) | (with_reducible refine Own.step (by assumption) ?_)))
              · exact (by repeat (first | (with_reducible exact U1.out) | ((with_reducible refine RS.setCell ?_ ?_ _); rotate_left; (intro ad had; have := G1.out ad.block (by rw [had]; simp [gOf]); simp; omega))))
              · exact (by repeat (first | (with_reducible exact U2.out) | ((with_reducible refine RS.setCell ?_ ?_ _); rotate_left; (intro ad had; have := G2.out ad.block (by rw [had]; simp [gOf]); simp; omega))))
              · exact (by repeat (first | (with_reducible exact HQ6.out) | ((with_reducible refine RS.setCell ?_ ?_ _); rotate_left; (intro ad had; have := HQG.out bq (by simp [gOf]); simp at had; subst had; simp; omega))))
              · exact (by repeat (first | (with_reducible exact HC6.out) | ((with_reducible refine Cur.far ?_ ?_ _); rotate_left; (first | omega | (simp <;> omega)))))
              · exact (by repeat (first | (with_reducible exact HO6.out) | ((with_reducible refine Only.up ?_ ?_ _); rotate_left; (first | omega | (simp <;> omega)))))
            case measure => simp [intOf]; omega
    · have h1 : ¬ (k : Int) < m.length := by omega
      have e0 := HFo.out.cell 0
      have e1 := HFo.out.cell 1
      have e2 := HFo.out.cell 2
      have e3 := HFo.out.cell 3
      have q0 := HKo.out.cell 0
      have q1 := HKo.out.cell 1
      have q2 := HKo.out.cell 2
      have q3 := HKo.out.cell 3
      have qf := HKo.out.frozen
      simp only [List.getElem?_cons_zero, List.getElem?_cons_succ] at e0 e1 e2 e3 q0 q1 q2 q3
      go_wp2
      refine bodyPost_ret (v := vFilm a b (.slice S1 N i1) (.slice S2 N i2)) (by simp [results, Try.results149, go_sem, *]) rfl ?_
      refine ⟨⟨a, b, N, s, t, S1, S2, i1, i2, rfl, ⟨a1, a2⟩, ⟨b1, b2⟩, HN.out, HVo.out.1, HVo.out.2.1, HVo.out.2.2, ?_, ?_, fun x hx => (G1o.out x hx).1, fun x hx => (G2o.out x hx).1⟩, ?_, ?_⟩
      · exact (by repeat (first | (with_reducible exact R1o.out) | (with_reducible refine RS.drew ?_) | (with_reducible refine RS.drewN ?_ _) | ((with_reducible refine RS.setCell ?_ ?_ _); rotate_left; (intro ad had; have := G1o.out ad.block (by rw [had]; simp [gOf]); simp; omega))))
      · exact (by repeat (first | (with_reducible exact R2o.out) | (with_reducible refine RS.drew ?_) | (with_reducible refine RS.drewN ?_ _) | ((with_reducible refine RS.setCell ?_ ?_ _); rotate_left; (intro ad had; have := G2o.out ad.block (by rw [had]; simp [gOf]); simp; omega))))
      · exact (by repeat (first | (with_reducible exact HCo.out) | (with_reducible refine Cur.drew ?_) | (with_reducible refine Cur.drewN ?_ _) | ((with_reducible refine Cur.far ?_ ?_ _); rotate_left; (first | omega | (simp <;> omega)))))
      · exact (by repeat (first | (with_reducible exact HOo.out) | (with_reducible refine Only.drew ?_) | (with_reducible refine Only.drewN ?_ _) | ((with_reducible refine Only.up ?_ ?_ _); rotate_left; (first | omega | (simp <;> omega)))))
set_option maxHeartbeats 4000000 in
theorem S_makeFilm {c : Nat} {A : Option Addr} {l : List Int} (w : World) (hl : l.length ≤ 1048576) (h : RS w 1 A l.length c (u8s l)) :
    Calls Try.prog 77 #[.slice A l.length c] w fun e w' => DrawnFilm w e w' ∧ Below w.heap.size w w' := by
  have HR := Lib.hid h
  clear h
  have HK : Hid (Own (w.alloc (.cells #[.int .i64 0, .int .i64 0, .slice none 0 0, .slice none 0 0] 98)) w.heap.size 98 [.int .i64 0, .int .i64 0, .slice none 0 0, .slice none 0 0]) := Own.new _ _ _
  go_enter Try.func77, Try.ntmps77
  go_wp2_with fail
  refine (S_newCur _ hl (HR.out.alloc _)).mono ?_
  rintro e w1 ⟨g, rfl, hg, hc, hb⟩
  (try simp at hg)
  have hz1 := hb.size
  (try simp at hz1)
  have HC := Lib.hid hc
  have HK1 := Lib.hid (HK.out.step hb)
  have HB := Lib.hid (Below.trans (Below.alloc (Below.refl w.heap.size w) (Nat.le_refl _) _) (hb.mono (by simp)))
  clear hc hb
  go_wp2_with fail
  refine (S_drawFilm _ HC.out).mono ?_
  rintro e w2 ⟨⟨a, b, n, s, t, P1, P2, k1, k2, rfl, ha, hb, hn, hs, ht, hv, r1, r2, g1, g2⟩, hc, hO⟩
  have hz2 := hO.size
  have hk2 := hO.own HK1.out (by omega) (by simp; omega)
  have q0 := hk2.cell 0
  have q1 := hk2.cell 1
  have q2 := hk2.cell 2
  have q3 := hk2.cell 3
  have qf := hk2.frozen
  simp only [List.getElem?_cons_zero, List.getElem?_cons_succ] at q0 q1 q2 q3
  have HO := Lib.hid (Below.trans HB.out (hO.below (by omega) (fun x hx => by simp at hx; omega)))
  have HS := Lib.hid (And.intro hn (And.intro hs (And.intro ht hv)))
  have R1 := Lib.hid r1
  have R2 := Lib.hid r2
  have G1 : Hid (∀ x, x ∈ gOf P1 → w.heap.size < x) := fun x hx => by have := g1 x hx; omega
  have G2 : Hid (∀ x, x ∈ gOf P2 → w.heap.size < x) := fun x hx => by have := g2 x hx; omega
  clear hc hO r1 r2 hk2 hs ht hn hv g1 g2
  go_wp2
  refine bodyPost_ret (v := vFilm a b (.slice P1 n k1) (.slice P2 n k2)) (by simp [results, Try.results77, go_sem, *]) rfl ?_
  refine ⟨⟨a, b, n, s, t, P1, P2, k1, k2, rfl, ha, hb, HS.out.1, HS.out.2.1, HS.out.2.2.1, HS.out.2.2.2, ?_, ?_, G1.out, G2.out⟩, (by repeat (first | (with_reducible exact Below.refl _ _) | (with_reducible exact HO.out) | (with_reducible assumption) | ((with_reducible refine Below.alloc ?_ ?_ _); rotate_left; (first | omega | (simp <;> omega))) | ((with_reducible refine Below.setCell ?_ ?_ _); rotate_left; (first | omega | (simp <;> omega))) | (with_reducible refine below_drewN ?_ _) | (with_reducible refine Below.drew ?_) | ((with_reducible refine Below.step (by assumption) ?_ ?_); rotate_left; (first | omega | (simp <;> omega)))))⟩
  · exact (by repeat (first | (with_reducible exact R1.out) | ((with_reducible refine RS.setCell ?_ ?_ _); rotate_left; (intro ad had; have := G1.out ad.block (by rw [had]; simp [gOf]); simp; omega))))
  · exact (by repeat (first | (with_reducible exact R2.out) | ((with_reducible refine RS.setCell ?_ ?_ _); rotate_left; (intro ad had; have := G2.out ad.block (by rw [had]; simp [gOf]); simp; omega))))
end Go.Proofs.Ythfnldjldfkmnaa
