/- ParseFilter, of the reference and of the program; the law FnExactParseFilter. -/
import Derived.Test.YtlepnjahpmlccaaDoorTxtR
import Derived.Test.YtlepnjahpmlccaaDoorFmtF
namespace Go.Proofs.YtlepnjahpmlccaaDoor
open Go.ChangeShapes Go.WideShapes Go.ChangeAt Go.RowKit Go.Lib
set_option linter.unusedVariables false
set_option maxRecDepth 100000
theorem fmtI_one : fmtI 1 = [49] := by rw [fmtI_in (by unfold inNum; omega)]; unfold itoa; rw [if_neg (by omega)]; exact decDigits_one (by decide)
theorem fmtI_two : fmtI 2 = [50] := by rw [fmtI_in (by unfold inNum; omega)]; unfold itoa; rw [if_neg (by omega)]; exact decDigits_one (by decide)
theorem fmtI_three : fmtI 3 = [51] := by rw [fmtI_in (by unfold inNum; omega)]; unfold itoa; rw [if_neg (by omega)]; exact decDigits_one (by decide)
def wordF (k : Int) : List UInt8 := if k = 1 then [98, 111, 120] else [116, 101, 110, 116]
theorem fmtF_cut {k r : Int} (h : validF k r = true) : cut (fmtF k r) [32] = (wordF k, fmtI r, true) := by
  obtain ⟨h1, h2, h3, h4⟩ := validF_rng h
  unfold fmtF
  rw [if_pos h]
  have hk : k = 1 ∨ k = 2 := by omega
  have hr : r = 1 ∨ r = 2 ∨ r = 3 := by omega
  rcases hk with rfl | rfl <;> rcases hr with rfl | rfl | rfl <;> (first | rw [fmtI_one] | rw [fmtI_two] | rw [fmtI_three]) <;> decide
theorem inNum_valid {k r : Int} (h : validF k r = true) : inNum r := by obtain ⟨h1, h2, h3, h4⟩ := validF_rng h; unfold inNum; omega
theorem fmtF_inj {k r k' r' : Int} (h : validF k r = true) (h' : validF k' r' = true) (e : fmtF k r = fmtF k' r') : k = k' ∧ r = r' := by
  have h1 := fmtF_cut h
  rw [e, fmtF_cut h'] at h1
  simp only [Prod.mk.injEq] at h1
  obtain ⟨e1, e2, _⟩ := h1
  have e3 := parseI_fmtI (inNum_valid h)
  rw [← e2, parseI_fmtI (inNum_valid h')] at e3
  obtain ⟨a1, a2, _, _⟩ := validF_rng h
  obtain ⟨b1, b2, _, _⟩ := validF_rng h'
  have hk : k = 1 ∨ k = 2 := by omega
  have hk' : k' = 1 ∨ k' = 2 := by omega
  refine ⟨?_, (Option.some.inj e3).symm⟩
  rcases hk with rfl | rfl <;> rcases hk' with rfl | rfl <;> first | rfl | exact absurd e1 (by decide)
open Classical in
/-- The filter whose text this is. -/
noncomputable def parseF (l : List UInt8) : Option (Int × Int) := if h : ∃ p : Int × Int, validF p.1 p.2 = true ∧ fmtF p.1 p.2 = l then some h.choose else none
theorem parseF_some {l : List UInt8} {k r : Int} (h : validF k r = true) (e : fmtF k r = l) : parseF l = some (k, r) := by
  have hx : ∃ p : Int × Int, validF p.1 p.2 = true ∧ fmtF p.1 p.2 = l := ⟨(k, r), h, e⟩
  unfold parseF
  rw [dif_pos hx]
  have hc := hx.choose_spec
  obtain ⟨e1, e2⟩ := fmtF_inj hc.1 h (hc.2.trans e.symm)
  exact congrArg some (Prod.ext e1 e2)
theorem parseF_none {l : List UInt8} (h : ∀ k r, validF k r = true → fmtF k r ≠ l) : parseF l = none := by
  unfold parseF
  rw [dif_neg (fun ⟨p, h1, h2⟩ => h _ _ h1 h2)]
abbrev vPF (o : Option (Int × Int)) : Value := .tuple #[vFilter (o.getD (0, 0)).1 (o.getD (0, 0)).2, .bool o.isSome]
theorem cut_len (l : List UInt8) : (cut l [32]).2.1.length ≤ l.length := by
  unfold cut; split <;> simp
set_option maxHeartbeats 4000000 in
theorem I_ParseFilter (l : List UInt8) (w : World) (hlim : l.length ≤ 1048576) (he : Env w) :
    Calls Tryd.prog 12 #[str l] w fun e w' => e = .returned (vPF (parseF l)) ∧ Below w.heap.size w w' := by
  obtain ⟨m, hm⟩ := he.mlen
  have hE := Lib.hid he
  obtain ⟨a, b, f, hc⟩ : ∃ a b f, cut l [32] = (a, b, f) := ⟨_, _, _, rfl⟩
  have hcl := cut_len l
  have HC : ∀ wx : World, Env wx → Calls Tryd.prog 31 #[str l, .string ⟨#[32]⟩] wx fun e w' => e = .returned (.tuple #[str a, str b, .bool f]) ∧ Below wx.heap.size wx w' := fun wx hx => by
    obtain ⟨m, hm⟩ := hx.mlen
    have h0 := Tryd.strings_Cut ⟨l.toArray⟩ ⟨#[32]⟩ m wx (by show l.length < _; omega) hm
    rw [show (⟨l.toArray⟩ : ByteArray).data.toList = l from rfl, show (⟨#[32]⟩ : ByteArray).data.toList = [32] from rfl, hc] at h0
    refine h0.mono fun e w' ⟨h1, n, h2⟩ => ⟨h1, ?_⟩
    subst h2
    exact below_drewN (Below.refl _ _) n
  rw [hc] at hcl
  have hbl : b.length ≤ 1048576 := Nat.le_trans hcl hlim
  obtain ⟨kk, hkk⟩ : ∃ kk : Int, kk = if a = [116, 101, 110, 116] then 2 else 1 := ⟨_, rfl⟩
  obtain ⟨rr, hrr⟩ : ∃ rr : Int, rr = (parseI b).getD 0 := ⟨_, rfl⟩
  have hnone : ¬ (l ≠ [] ∧ fmtF kk rr = l) → parseF l = none := fun hn => parseF_none (fun k r hv e => by
    apply hn
    subst e
    rw [fmtF_cut hv] at hc
    simp only [Prod.mk.injEq] at hc
    obtain ⟨rfl, rfl, _⟩ := hc
    rw [parseI_fmtI (inNum_valid hv)] at hrr
    obtain ⟨a1, a2, _, _⟩ := validF_rng hv
    have hk : k = 1 ∨ k = 2 := by omega
    have e1 : kk = k := by
      rw [hkk]
      rcases hk with rfl | rfl
      · rw [if_neg (by decide)]
      · rw [if_pos (by decide)]
    have e2 : rr = r := hrr
    rw [e1, e2]
    refine ⟨?_, rfl⟩
    unfold fmtF
    rw [if_pos hv]
    split <;> simp)
  have hsome : l ≠ [] → fmtF kk rr = l → parseF l = some (kk, rr) := fun hne e => parseF_some (by
    cases hv : validF kk rr with
    | true => rfl
    | false => unfold fmtF at e; rw [hv] at e; exact absurd e.symm hne) e
  have HN := Lib.hid hnone
  have HS := Lib.hid hsome
  clear hnone hsome hc hcl he
  --GEN
  have HP : Hid (∀ wx : World, Env wx → Calls Tryd.prog 32 #[str b] wx fun e w' => e = .returned (.tuple #[.int .i64 rr, .bool (parseI b).isSome]) ∧ Below wx.heap.size wx w') := Lib.hid (fun wx hx => by
    have := I_ParseInt b wx (by omega) hx
    rwa [show vPI (parseI b) = .tuple #[.int .i64 rr, .bool (parseI b).isSome] by rw [hrr]] at this)
  have HK := Lib.hid HC
  obtain ⟨gg, hgg⟩ : ∃ gg, gg = (parseI b).isSome := ⟨_, rfl⟩
  rw [← hgg] at HP
  clear hrr HC hm hgg hbl
  have hlim' : l.length ≤ 4611686018427387904 := by omega
  clear hlim
  by_cases ha : a = [116, 101, 110, 116]
  · rw [if_pos ha] at hkk
    subst ha hkk
    by_cases hl0 : l = []
    · subst hl0
      have HR : Hid (parseF [] = none) := Lib.hid (HN.out (fun h => h.1 rfl))
      clear HN HS
      go_enter Tryd.func12, Tryd.ntmps12
      go_wp2_with fail
      refine (HK.out _ (hE.out.step (by repeat (first | (with_reducible exact Below.refl _ _) | (with_reducible assumption) | ((with_reducible refine Below.alloc ?_ ?_ _); rotate_left; (first | omega | (simp <;> omega))) | ((with_reducible refine Below.setCell ?_ ?_ _); rotate_left; (first | omega | (simp <;> omega))) | (with_reducible refine below_drewN ?_ _) | (with_reducible refine Below.drew ?_) | ((with_reducible refine Below.step (by assumption) ?_ ?_); rotate_left; (first | omega | (simp <;> omega))))))).mono ?_
      rintro e w' ⟨rfl, hb⟩; have hz := hb.size; (try simp at hz); have c0 := fun o => hb.cell (p := ⟨w.heap.size, o, none⟩) (by first | omega | (simp <;> omega)); have f0 := fun o => hb.frozen (p := ⟨w.heap.size, o, none⟩) (by first | omega | (simp <;> omega)); have z0 : w.heap.size < w'.heap.size := (by omega)
      have bA : Below w.heap.size w w' := (by repeat (first | (with_reducible exact Below.refl _ _) | (with_reducible assumption) | ((with_reducible refine Below.alloc ?_ ?_ _); rotate_left; (first | omega | (simp <;> omega))) | ((with_reducible refine Below.setCell ?_ ?_ _); rotate_left; (first | omega | (simp <;> omega))) | (with_reducible refine below_drewN ?_ _) | (with_reducible refine Below.drew ?_) | ((with_reducible refine Below.step (by assumption) ?_ ?_); rotate_left; (first | omega | (simp <;> omega)))))
      obtain ⟨wA, rfl⟩ : ∃ wA, wA = w' := ⟨_, rfl⟩
      have eA : ¬ w.heap.size = wA.heap.size := by omega
      have eA' : ¬ wA.heap.size = w.heap.size := by omega
      go_wp2_with fail
      refine (HP.out _ (hE.out.step (by repeat (first | (with_reducible exact Below.refl _ _) | (with_reducible assumption) | ((with_reducible refine Below.alloc ?_ ?_ _); rotate_left; (first | omega | (simp <;> omega))) | ((with_reducible refine Below.setCell ?_ ?_ _); rotate_left; (first | omega | (simp <;> omega))) | (with_reducible refine below_drewN ?_ _) | (with_reducible refine Below.drew ?_) | ((with_reducible refine Below.step (by assumption) ?_ ?_); rotate_left; (first | omega | (simp <;> omega))))))).mono ?_
      rintro e wB ⟨rfl, hbB⟩
      have zB := hbB.size
      (try simp at zB)
      have bB : Below w.heap.size w wB := (by repeat (first | (with_reducible exact Below.refl _ _) | (with_reducible assumption) | ((with_reducible refine Below.alloc ?_ ?_ _); rotate_left; (first | omega | (simp <;> omega))) | ((with_reducible refine Below.setCell ?_ ?_ _); rotate_left; (first | omega | (simp <;> omega))) | (with_reducible refine below_drewN ?_ _) | (with_reducible refine Below.drew ?_) | ((with_reducible refine Below.step (by assumption) ?_ ?_); rotate_left; (first | omega | (simp <;> omega)))))
      have d0 := fun o => hbB.cell (p := ⟨w.heap.size, o, none⟩) (by first | omega | (simp <;> omega))
      have d1 := fun o => hbB.frozen (p := ⟨w.heap.size, o, none⟩) (by first | omega | (simp <;> omega))
      have d2 : w.heap.size < wB.heap.size := by omega
      have g0 := fun o => hbB.cell (p := ⟨wA.heap.size, o, none⟩) (by first | omega | (simp <;> omega))
      have g1 := fun o => hbB.frozen (p := ⟨wA.heap.size, o, none⟩) (by first | omega | (simp <;> omega))
      have g2 : wA.heap.size < wB.heap.size := by omega
      clear hbB zB
      go_wp2_with fail
      exact bodyPost_ret (v := vPF none) (by simp [results, Tryd.results12, go_sem, *]) rfl ⟨by rw [HR.out], (by repeat (first | (with_reducible exact Below.refl _ _) | (with_reducible assumption) | ((with_reducible refine Below.alloc ?_ ?_ _); rotate_left; (first | omega | (simp <;> omega))) | ((with_reducible refine Below.setCell ?_ ?_ _); rotate_left; (first | omega | (simp <;> omega))) | (with_reducible refine below_drewN ?_ _) | (with_reducible refine Below.drew ?_) | ((with_reducible refine Below.step (by assumption) ?_ ?_); rotate_left; (first | omega | (simp <;> omega)))))⟩
    by_cases hf : fmtF 2 rr = l
    · have HR : Hid (parseF l = some (2, rr)) := Lib.hid (HS.out hl0 hf)
      have hle : l.isEmpty = false := by cases l with | nil => exact absurd rfl hl0 | cons => rfl
      have hfb : (fmtF 2 rr == l) = true := by simpa using hf
      clear HN HS
      go_enter Tryd.func12, Tryd.ntmps12
      go_wp2_with fail
      refine (HK.out _ (hE.out.step (by repeat (first | (with_reducible exact Below.refl _ _) | (with_reducible assumption) | ((with_reducible refine Below.alloc ?_ ?_ _); rotate_left; (first | omega | (simp <;> omega))) | ((with_reducible refine Below.setCell ?_ ?_ _); rotate_left; (first | omega | (simp <;> omega))) | (with_reducible refine below_drewN ?_ _) | (with_reducible refine Below.drew ?_) | ((with_reducible refine Below.step (by assumption) ?_ ?_); rotate_left; (first | omega | (simp <;> omega))))))).mono ?_
      rintro e w' ⟨rfl, hb⟩; have hz := hb.size; (try simp at hz); have c0 := fun o => hb.cell (p := ⟨w.heap.size, o, none⟩) (by first | omega | (simp <;> omega)); have f0 := fun o => hb.frozen (p := ⟨w.heap.size, o, none⟩) (by first | omega | (simp <;> omega)); have z0 : w.heap.size < w'.heap.size := (by omega)
      have bA : Below w.heap.size w w' := (by repeat (first | (with_reducible exact Below.refl _ _) | (with_reducible assumption) | ((with_reducible refine Below.alloc ?_ ?_ _); rotate_left; (first | omega | (simp <;> omega))) | ((with_reducible refine Below.setCell ?_ ?_ _); rotate_left; (first | omega | (simp <;> omega))) | (with_reducible refine below_drewN ?_ _) | (with_reducible refine Below.drew ?_) | ((with_reducible refine Below.step (by assumption) ?_ ?_); rotate_left; (first | omega | (simp <;> omega)))))
      obtain ⟨wA, rfl⟩ : ∃ wA, wA = w' := ⟨_, rfl⟩
      have eA : ¬ w.heap.size = wA.heap.size := by omega
      have eA' : ¬ wA.heap.size = w.heap.size := by omega
      go_wp2_with fail
      refine (HP.out _ (hE.out.step (by repeat (first | (with_reducible exact Below.refl _ _) | (with_reducible assumption) | ((with_reducible refine Below.alloc ?_ ?_ _); rotate_left; (first | omega | (simp <;> omega))) | ((with_reducible refine Below.setCell ?_ ?_ _); rotate_left; (first | omega | (simp <;> omega))) | (with_reducible refine below_drewN ?_ _) | (with_reducible refine Below.drew ?_) | ((with_reducible refine Below.step (by assumption) ?_ ?_); rotate_left; (first | omega | (simp <;> omega))))))).mono ?_
      rintro e wB ⟨rfl, hbB⟩
      have zB := hbB.size
      (try simp at zB)
      have bB : Below w.heap.size w wB := (by repeat (first | (with_reducible exact Below.refl _ _) | (with_reducible assumption) | ((with_reducible refine Below.alloc ?_ ?_ _); rotate_left; (first | omega | (simp <;> omega))) | ((with_reducible refine Below.setCell ?_ ?_ _); rotate_left; (first | omega | (simp <;> omega))) | (with_reducible refine below_drewN ?_ _) | (with_reducible refine Below.drew ?_) | ((with_reducible refine Below.step (by assumption) ?_ ?_); rotate_left; (first | omega | (simp <;> omega)))))
      have d0 := fun o => hbB.cell (p := ⟨w.heap.size, o, none⟩) (by first | omega | (simp <;> omega))
      have d1 := fun o => hbB.frozen (p := ⟨w.heap.size, o, none⟩) (by first | omega | (simp <;> omega))
      have d2 : w.heap.size < wB.heap.size := by omega
      have g0 := fun o => hbB.cell (p := ⟨wA.heap.size, o, none⟩) (by first | omega | (simp <;> omega))
      have g1 := fun o => hbB.frozen (p := ⟨wA.heap.size, o, none⟩) (by first | omega | (simp <;> omega))
      have g2 : wA.heap.size < wB.heap.size := by omega
      clear hbB zB
      go_wp2_with fail
      refine (I_FormatFilter 2 rr _ (hE.out.step (by repeat (first | (with_reducible exact Below.refl _ _) | (with_reducible assumption) | ((with_reducible refine Below.alloc ?_ ?_ _); rotate_left; (first | omega | (simp <;> omega))) | ((with_reducible refine Below.setCell ?_ ?_ _); rotate_left; (first | omega | (simp <;> omega))) | (with_reducible refine below_drewN ?_ _) | (with_reducible refine Below.drew ?_) | ((with_reducible refine Below.step (by assumption) ?_ ?_); rotate_left; (first | omega | (simp <;> omega)))))).tab).mono ?_
      rintro e wC ⟨rfl, hbC⟩
      have zC := hbC.size
      (try simp at zC)
      have bC : Below w.heap.size w wC := (by repeat (first | (with_reducible exact Below.refl _ _) | (with_reducible assumption) | ((with_reducible refine Below.alloc ?_ ?_ _); rotate_left; (first | omega | (simp <;> omega))) | ((with_reducible refine Below.setCell ?_ ?_ _); rotate_left; (first | omega | (simp <;> omega))) | (with_reducible refine below_drewN ?_ _) | (with_reducible refine Below.drew ?_) | ((with_reducible refine Below.step (by assumption) ?_ ?_); rotate_left; (first | omega | (simp <;> omega)))))
      have m0 := fun o => hbC.cell (p := ⟨w.heap.size, o, none⟩) (by first | omega | (simp <;> omega))
      have m1 := fun o => hbC.frozen (p := ⟨w.heap.size, o, none⟩) (by first | omega | (simp <;> omega))
      have m2 : w.heap.size < wC.heap.size := by omega
      have n0 := fun o => hbC.cell (p := ⟨wA.heap.size, o, none⟩) (by first | omega | (simp <;> omega))
      have n1 := fun o => hbC.frozen (p := ⟨wA.heap.size, o, none⟩) (by first | omega | (simp <;> omega))
      have n2 : wA.heap.size < wC.heap.size := by omega
      clear hbC zC
      go_wp2_with fail
      exact bodyPost_ret (v := vPF (some (2, rr))) (by simp [results, Tryd.results12, go_sem, *]) rfl ⟨by rw [HR.out], (by repeat (first | (with_reducible exact Below.refl _ _) | (with_reducible assumption) | ((with_reducible refine Below.alloc ?_ ?_ _); rotate_left; (first | omega | (simp <;> omega))) | ((with_reducible refine Below.setCell ?_ ?_ _); rotate_left; (first | omega | (simp <;> omega))) | (with_reducible refine below_drewN ?_ _) | (with_reducible refine Below.drew ?_) | ((with_reducible refine Below.step (by assumption) ?_ ?_); rotate_left; (first | omega | (simp <;> omega)))))⟩
    · have HR : Hid (parseF l = none) := Lib.hid (HN.out (fun h => hf h.2))
      have hle : l.isEmpty = false := by cases l with | nil => exact absurd rfl hl0 | cons => rfl
      have hfb : (fmtF 2 rr == l) = false := by simpa using hf
      clear HN HS
      go_enter Tryd.func12, Tryd.ntmps12
      go_wp2_with fail
      refine (HK.out _ (hE.out.step (by repeat (first | (with_reducible exact Below.refl _ _) | (with_reducible assumption) | ((with_reducible refine Below.alloc ?_ ?_ _); rotate_left; (first | omega | (simp <;> omega))) | ((with_reducible refine Below.setCell ?_ ?_ _); rotate_left; (first | omega | (simp <;> omega))) | (with_reducible refine below_drewN ?_ _) | (with_reducible refine Below.drew ?_) | ((with_reducible refine Below.step (by assumption) ?_ ?_); rotate_left; (first | omega | (simp <;> omega))))))).mono ?_
      rintro e w' ⟨rfl, hb⟩; have hz := hb.size; (try simp at hz); have c0 := fun o => hb.cell (p := ⟨w.heap.size, o, none⟩) (by first | omega | (simp <;> omega)); have f0 := fun o => hb.frozen (p := ⟨w.heap.size, o, none⟩) (by first | omega | (simp <;> omega)); have z0 : w.heap.size < w'.heap.size := (by omega)
      have bA : Below w.heap.size w w' := (by repeat (first | (with_reducible exact Below.refl _ _) | (with_reducible assumption) | ((with_reducible refine Below.alloc ?_ ?_ _); rotate_left; (first | omega | (simp <;> omega))) | ((with_reducible refine Below.setCell ?_ ?_ _); rotate_left; (first | omega | (simp <;> omega))) | (with_reducible refine below_drewN ?_ _) | (with_reducible refine Below.drew ?_) | ((with_reducible refine Below.step (by assumption) ?_ ?_); rotate_left; (first | omega | (simp <;> omega)))))
      obtain ⟨wA, rfl⟩ : ∃ wA, wA = w' := ⟨_, rfl⟩
      have eA : ¬ w.heap.size = wA.heap.size := by omega
      have eA' : ¬ wA.heap.size = w.heap.size := by omega
      go_wp2_with fail
      refine (HP.out _ (hE.out.step (by repeat (first | (with_reducible exact Below.refl _ _) | (with_reducible assumption) | ((with_reducible refine Below.alloc ?_ ?_ _); rotate_left; (first | omega | (simp <;> omega))) | ((with_reducible refine Below.setCell ?_ ?_ _); rotate_left; (first | omega | (simp <;> omega))) | (with_reducible refine below_drewN ?_ _) | (with_reducible refine Below.drew ?_) | ((with_reducible refine Below.step (by assumption) ?_ ?_); rotate_left; (first | omega | (simp <;> omega))))))).mono ?_
      rintro e wB ⟨rfl, hbB⟩
      have zB := hbB.size
      (try simp at zB)
      have bB : Below w.heap.size w wB := (by repeat (first | (with_reducible exact Below.refl _ _) | (with_reducible assumption) | ((with_reducible refine Below.alloc ?_ ?_ _); rotate_left; (first | omega | (simp <;> omega))) | ((with_reducible refine Below.setCell ?_ ?_ _); rotate_left; (first | omega | (simp <;> omega))) | (with_reducible refine below_drewN ?_ _) | (with_reducible refine Below.drew ?_) | ((with_reducible refine Below.step (by assumption) ?_ ?_); rotate_left; (first | omega | (simp <;> omega)))))
      have d0 := fun o => hbB.cell (p := ⟨w.heap.size, o, none⟩) (by first | omega | (simp <;> omega))
      have d1 := fun o => hbB.frozen (p := ⟨w.heap.size, o, none⟩) (by first | omega | (simp <;> omega))
      have d2 : w.heap.size < wB.heap.size := by omega
      have g0 := fun o => hbB.cell (p := ⟨wA.heap.size, o, none⟩) (by first | omega | (simp <;> omega))
      have g1 := fun o => hbB.frozen (p := ⟨wA.heap.size, o, none⟩) (by first | omega | (simp <;> omega))
      have g2 : wA.heap.size < wB.heap.size := by omega
      clear hbB zB
      go_wp2_with fail
      refine (I_FormatFilter 2 rr _ (hE.out.step (by repeat (first | (with_reducible exact Below.refl _ _) | (with_reducible assumption) | ((with_reducible refine Below.alloc ?_ ?_ _); rotate_left; (first | omega | (simp <;> omega))) | ((with_reducible refine Below.setCell ?_ ?_ _); rotate_left; (first | omega | (simp <;> omega))) | (with_reducible refine below_drewN ?_ _) | (with_reducible refine Below.drew ?_) | ((with_reducible refine Below.step (by assumption) ?_ ?_); rotate_left; (first | omega | (simp <;> omega)))))).tab).mono ?_
      rintro e wC ⟨rfl, hbC⟩
      have zC := hbC.size
      (try simp at zC)
      have bC : Below w.heap.size w wC := (by repeat (first | (with_reducible exact Below.refl _ _) | (with_reducible assumption) | ((with_reducible refine Below.alloc ?_ ?_ _); rotate_left; (first | omega | (simp <;> omega))) | ((with_reducible refine Below.setCell ?_ ?_ _); rotate_left; (first | omega | (simp <;> omega))) | (with_reducible refine below_drewN ?_ _) | (with_reducible refine Below.drew ?_) | ((with_reducible refine Below.step (by assumption) ?_ ?_); rotate_left; (first | omega | (simp <;> omega)))))
      have m0 := fun o => hbC.cell (p := ⟨w.heap.size, o, none⟩) (by first | omega | (simp <;> omega))
      have m1 := fun o => hbC.frozen (p := ⟨w.heap.size, o, none⟩) (by first | omega | (simp <;> omega))
      have m2 : w.heap.size < wC.heap.size := by omega
      have n0 := fun o => hbC.cell (p := ⟨wA.heap.size, o, none⟩) (by first | omega | (simp <;> omega))
      have n1 := fun o => hbC.frozen (p := ⟨wA.heap.size, o, none⟩) (by first | omega | (simp <;> omega))
      have n2 : wA.heap.size < wC.heap.size := by omega
      clear hbC zC
      go_wp2_with fail
      exact bodyPost_ret (v := vPF none) (by simp [results, Tryd.results12, go_sem, *]) rfl ⟨by rw [HR.out], (by repeat (first | (with_reducible exact Below.refl _ _) | (with_reducible assumption) | ((with_reducible refine Below.alloc ?_ ?_ _); rotate_left; (first | omega | (simp <;> omega))) | ((with_reducible refine Below.setCell ?_ ?_ _); rotate_left; (first | omega | (simp <;> omega))) | (with_reducible refine below_drewN ?_ _) | (with_reducible refine Below.drew ?_) | ((with_reducible refine Below.step (by assumption) ?_ ?_); rotate_left; (first | omega | (simp <;> omega)))))⟩
  · rw [if_neg ha] at hkk
    subst hkk
    have hab : (a == [116, 101, 110, 116]) = false := by simpa using ha
    by_cases hl0 : l = []
    · subst hl0
      have HR : Hid (parseF [] = none) := Lib.hid (HN.out (fun h => h.1 rfl))
      clear HN HS
      go_enter Tryd.func12, Tryd.ntmps12
      go_wp2_with fail
      refine (HK.out _ (hE.out.step (by repeat (first | (with_reducible exact Below.refl _ _) | (with_reducible assumption) | ((with_reducible refine Below.alloc ?_ ?_ _); rotate_left; (first | omega | (simp <;> omega))) | ((with_reducible refine Below.setCell ?_ ?_ _); rotate_left; (first | omega | (simp <;> omega))) | (with_reducible refine below_drewN ?_ _) | (with_reducible refine Below.drew ?_) | ((with_reducible refine Below.step (by assumption) ?_ ?_); rotate_left; (first | omega | (simp <;> omega))))))).mono ?_
      rintro e w' ⟨rfl, hb⟩; have hz := hb.size; (try simp at hz); have c0 := fun o => hb.cell (p := ⟨w.heap.size, o, none⟩) (by first | omega | (simp <;> omega)); have f0 := fun o => hb.frozen (p := ⟨w.heap.size, o, none⟩) (by first | omega | (simp <;> omega)); have z0 : w.heap.size < w'.heap.size := (by omega)
      have bA : Below w.heap.size w w' := (by repeat (first | (with_reducible exact Below.refl _ _) | (with_reducible assumption) | ((with_reducible refine Below.alloc ?_ ?_ _); rotate_left; (first | omega | (simp <;> omega))) | ((with_reducible refine Below.setCell ?_ ?_ _); rotate_left; (first | omega | (simp <;> omega))) | (with_reducible refine below_drewN ?_ _) | (with_reducible refine Below.drew ?_) | ((with_reducible refine Below.step (by assumption) ?_ ?_); rotate_left; (first | omega | (simp <;> omega)))))
      obtain ⟨wA, rfl⟩ : ∃ wA, wA = w' := ⟨_, rfl⟩
      have eA : ¬ w.heap.size = wA.heap.size := by omega
      have eA' : ¬ wA.heap.size = w.heap.size := by omega
      go_wp2_with fail
      refine (HP.out _ (hE.out.step (by repeat (first | (with_reducible exact Below.refl _ _) | (with_reducible assumption) | ((with_reducible refine Below.alloc ?_ ?_ _); rotate_left; (first | omega | (simp <;> omega))) | ((with_reducible refine Below.setCell ?_ ?_ _); rotate_left; (first | omega | (simp <;> omega))) | (with_reducible refine below_drewN ?_ _) | (with_reducible refine Below.drew ?_) | ((with_reducible refine Below.step (by assumption) ?_ ?_); rotate_left; (first | omega | (simp <;> omega))))))).mono ?_
      rintro e wB ⟨rfl, hbB⟩
      have zB := hbB.size
      (try simp at zB)
      have bB : Below w.heap.size w wB := (by repeat (first | (with_reducible exact Below.refl _ _) | (with_reducible assumption) | ((with_reducible refine Below.alloc ?_ ?_ _); rotate_left; (first | omega | (simp <;> omega))) | ((with_reducible refine Below.setCell ?_ ?_ _); rotate_left; (first | omega | (simp <;> omega))) | (with_reducible refine below_drewN ?_ _) | (with_reducible refine Below.drew ?_) | ((with_reducible refine Below.step (by assumption) ?_ ?_); rotate_left; (first | omega | (simp <;> omega)))))
      have d0 := fun o => hbB.cell (p := ⟨w.heap.size, o, none⟩) (by first | omega | (simp <;> omega))
      have d1 := fun o => hbB.frozen (p := ⟨w.heap.size, o, none⟩) (by first | omega | (simp <;> omega))
      have d2 : w.heap.size < wB.heap.size := by omega
      have g0 := fun o => hbB.cell (p := ⟨wA.heap.size, o, none⟩) (by first | omega | (simp <;> omega))
      have g1 := fun o => hbB.frozen (p := ⟨wA.heap.size, o, none⟩) (by first | omega | (simp <;> omega))
      have g2 : wA.heap.size < wB.heap.size := by omega
      clear hbB zB
      go_wp2_with fail
      exact bodyPost_ret (v := vPF none) (by simp [results, Tryd.results12, go_sem, *]) rfl ⟨by rw [HR.out], (by repeat (first | (with_reducible exact Below.refl _ _) | (with_reducible assumption) | ((with_reducible refine Below.alloc ?_ ?_ _); rotate_left; (first | omega | (simp <;> omega))) | ((with_reducible refine Below.setCell ?_ ?_ _); rotate_left; (first | omega | (simp <;> omega))) | (with_reducible refine below_drewN ?_ _) | (with_reducible refine Below.drew ?_) | ((with_reducible refine Below.step (by assumption) ?_ ?_); rotate_left; (first | omega | (simp <;> omega)))))⟩
    by_cases hf : fmtF 1 rr = l
    · have HR : Hid (parseF l = some (1, rr)) := Lib.hid (HS.out hl0 hf)
      have hle : l.isEmpty = false := by cases l with | nil => exact absurd rfl hl0 | cons => rfl
      have hfb : (fmtF 1 rr == l) = true := by simpa using hf
      clear HN HS
      go_enter Tryd.func12, Tryd.ntmps12
      go_wp2_with fail
      refine (HK.out _ (hE.out.step (by repeat (first | (with_reducible exact Below.refl _ _) | (with_reducible assumption) | ((with_reducible refine Below.alloc ?_ ?_ _); rotate_left; (first | omega | (simp <;> omega))) | ((with_reducible refine Below.setCell ?_ ?_ _); rotate_left; (first | omega | (simp <;> omega))) | (with_reducible refine below_drewN ?_ _) | (with_reducible refine Below.drew ?_) | ((with_reducible refine Below.step (by assumption) ?_ ?_); rotate_left; (first | omega | (simp <;> omega))))))).mono ?_
      rintro e w' ⟨rfl, hb⟩; have hz := hb.size; (try simp at hz); have c0 := fun o => hb.cell (p := ⟨w.heap.size, o, none⟩) (by first | omega | (simp <;> omega)); have f0 := fun o => hb.frozen (p := ⟨w.heap.size, o, none⟩) (by first | omega | (simp <;> omega)); have z0 : w.heap.size < w'.heap.size := (by omega)
      have bA : Below w.heap.size w w' := (by repeat (first | (with_reducible exact Below.refl _ _) | (with_reducible assumption) | ((with_reducible refine Below.alloc ?_ ?_ _); rotate_left; (first | omega | (simp <;> omega))) | ((with_reducible refine Below.setCell ?_ ?_ _); rotate_left; (first | omega | (simp <;> omega))) | (with_reducible refine below_drewN ?_ _) | (with_reducible refine Below.drew ?_) | ((with_reducible refine Below.step (by assumption) ?_ ?_); rotate_left; (first | omega | (simp <;> omega)))))
      obtain ⟨wA, rfl⟩ : ∃ wA, wA = w' := ⟨_, rfl⟩
      have eA : ¬ w.heap.size = wA.heap.size := by omega
      have eA' : ¬ wA.heap.size = w.heap.size := by omega
      go_wp2_with fail
      refine (HP.out _ (hE.out.step (by repeat (first | (with_reducible exact Below.refl _ _) | (with_reducible assumption) | ((with_reducible refine Below.alloc ?_ ?_ _); rotate_left; (first | omega | (simp <;> omega))) | ((with_reducible refine Below.setCell ?_ ?_ _); rotate_left; (first | omega | (simp <;> omega))) | (with_reducible refine below_drewN ?_ _) | (with_reducible refine Below.drew ?_) | ((with_reducible refine Below.step (by assumption) ?_ ?_); rotate_left; (first | omega | (simp <;> omega))))))).mono ?_
      rintro e wB ⟨rfl, hbB⟩
      have zB := hbB.size
      (try simp at zB)
      have bB : Below w.heap.size w wB := (by repeat (first | (with_reducible exact Below.refl _ _) | (with_reducible assumption) | ((with_reducible refine Below.alloc ?_ ?_ _); rotate_left; (first | omega | (simp <;> omega))) | ((with_reducible refine Below.setCell ?_ ?_ _); rotate_left; (first | omega | (simp <;> omega))) | (with_reducible refine below_drewN ?_ _) | (with_reducible refine Below.drew ?_) | ((with_reducible refine Below.step (by assumption) ?_ ?_); rotate_left; (first | omega | (simp <;> omega)))))
      have d0 := fun o => hbB.cell (p := ⟨w.heap.size, o, none⟩) (by first | omega | (simp <;> omega))
      have d1 := fun o => hbB.frozen (p := ⟨w.heap.size, o, none⟩) (by first | omega | (simp <;> omega))
      have d2 : w.heap.size < wB.heap.size := by omega
      have g0 := fun o => hbB.cell (p := ⟨wA.heap.size, o, none⟩) (by first | omega | (simp <;> omega))
      have g1 := fun o => hbB.frozen (p := ⟨wA.heap.size, o, none⟩) (by first | omega | (simp <;> omega))
      have g2 : wA.heap.size < wB.heap.size := by omega
      clear hbB zB
      go_wp2_with fail
      refine (I_FormatFilter 1 rr _ (hE.out.step (by repeat (first | (with_reducible exact Below.refl _ _) | (with_reducible assumption) | ((with_reducible refine Below.alloc ?_ ?_ _); rotate_left; (first | omega | (simp <;> omega))) | ((with_reducible refine Below.setCell ?_ ?_ _); rotate_left; (first | omega | (simp <;> omega))) | (with_reducible refine below_drewN ?_ _) | (with_reducible refine Below.drew ?_) | ((with_reducible refine Below.step (by assumption) ?_ ?_); rotate_left; (first | omega | (simp <;> omega)))))).tab).mono ?_
      rintro e wC ⟨rfl, hbC⟩
      have zC := hbC.size
      (try simp at zC)
      have bC : Below w.heap.size w wC := (by repeat (first | (with_reducible exact Below.refl _ _) | (with_reducible assumption) | ((with_reducible refine Below.alloc ?_ ?_ _); rotate_left; (first | omega | (simp <;> omega))) | ((with_reducible refine Below.setCell ?_ ?_ _); rotate_left; (first | omega | (simp <;> omega))) | (with_reducible refine below_drewN ?_ _) | (with_reducible refine Below.drew ?_) | ((with_reducible refine Below.step (by assumption) ?_ ?_); rotate_left; (first | omega | (simp <;> omega)))))
      have m0 := fun o => hbC.cell (p := ⟨w.heap.size, o, none⟩) (by first | omega | (simp <;> omega))
      have m1 := fun o => hbC.frozen (p := ⟨w.heap.size, o, none⟩) (by first | omega | (simp <;> omega))
      have m2 : w.heap.size < wC.heap.size := by omega
      have n0 := fun o => hbC.cell (p := ⟨wA.heap.size, o, none⟩) (by first | omega | (simp <;> omega))
      have n1 := fun o => hbC.frozen (p := ⟨wA.heap.size, o, none⟩) (by first | omega | (simp <;> omega))
      have n2 : wA.heap.size < wC.heap.size := by omega
      clear hbC zC
      go_wp2_with fail
      exact bodyPost_ret (v := vPF (some (1, rr))) (by simp [results, Tryd.results12, go_sem, *]) rfl ⟨by rw [HR.out], (by repeat (first | (with_reducible exact Below.refl _ _) | (with_reducible assumption) | ((with_reducible refine Below.alloc ?_ ?_ _); rotate_left; (first | omega | (simp <;> omega))) | ((with_reducible refine Below.setCell ?_ ?_ _); rotate_left; (first | omega | (simp <;> omega))) | (with_reducible refine below_drewN ?_ _) | (with_reducible refine Below.drew ?_) | ((with_reducible refine Below.step (by assumption) ?_ ?_); rotate_left; (first | omega | (simp <;> omega)))))⟩
    · have HR : Hid (parseF l = none) := Lib.hid (HN.out (fun h => hf h.2))
      have hle : l.isEmpty = false := by cases l with | nil => exact absurd rfl hl0 | cons => rfl
      have hfb : (fmtF 1 rr == l) = false := by simpa using hf
      clear HN HS
      go_enter Tryd.func12, Tryd.ntmps12
      go_wp2_with fail
      refine (HK.out _ (hE.out.step (by repeat (first | (with_reducible exact Below.refl _ _) | (with_reducible assumption) | ((with_reducible refine Below.alloc ?_ ?_ _); rotate_left; (first | omega | (simp <;> omega))) | ((with_reducible refine Below.setCell ?_ ?_ _); rotate_left; (first | omega | (simp <;> omega))) | (with_reducible refine below_drewN ?_ _) | (with_reducible refine Below.drew ?_) | ((with_reducible refine Below.step (by assumption) ?_ ?_); rotate_left; (first | omega | (simp <;> omega))))))).mono ?_
      rintro e w' ⟨rfl, hb⟩; have hz := hb.size; (try simp at hz); have c0 := fun o => hb.cell (p := ⟨w.heap.size, o, none⟩) (by first | omega | (simp <;> omega)); have f0 := fun o => hb.frozen (p := ⟨w.heap.size, o, none⟩) (by first | omega | (simp <;> omega)); have z0 : w.heap.size < w'.heap.size := (by omega)
      have bA : Below w.heap.size w w' := (by repeat (first | (with_reducible exact Below.refl _ _) | (with_reducible assumption) | ((with_reducible refine Below.alloc ?_ ?_ _); rotate_left; (first | omega | (simp <;> omega))) | ((with_reducible refine Below.setCell ?_ ?_ _); rotate_left; (first | omega | (simp <;> omega))) | (with_reducible refine below_drewN ?_ _) | (with_reducible refine Below.drew ?_) | ((with_reducible refine Below.step (by assumption) ?_ ?_); rotate_left; (first | omega | (simp <;> omega)))))
      obtain ⟨wA, rfl⟩ : ∃ wA, wA = w' := ⟨_, rfl⟩
      have eA : ¬ w.heap.size = wA.heap.size := by omega
      have eA' : ¬ wA.heap.size = w.heap.size := by omega
      go_wp2_with fail
      refine (HP.out _ (hE.out.step (by repeat (first | (with_reducible exact Below.refl _ _) | (with_reducible assumption) | ((with_reducible refine Below.alloc ?_ ?_ _); rotate_left; (first | omega | (simp <;> omega))) | ((with_reducible refine Below.setCell ?_ ?_ _); rotate_left; (first | omega | (simp <;> omega))) | (with_reducible refine below_drewN ?_ _) | (with_reducible refine Below.drew ?_) | ((with_reducible refine Below.step (by assumption) ?_ ?_); rotate_left; (first | omega | (simp <;> omega))))))).mono ?_
      rintro e wB ⟨rfl, hbB⟩
      have zB := hbB.size
      (try simp at zB)
      have bB : Below w.heap.size w wB := (by repeat (first | (with_reducible exact Below.refl _ _) | (with_reducible assumption) | ((with_reducible refine Below.alloc ?_ ?_ _); rotate_left; (first | omega | (simp <;> omega))) | ((with_reducible refine Below.setCell ?_ ?_ _); rotate_left; (first | omega | (simp <;> omega))) | (with_reducible refine below_drewN ?_ _) | (with_reducible refine Below.drew ?_) | ((with_reducible refine Below.step (by assumption) ?_ ?_); rotate_left; (first | omega | (simp <;> omega)))))
      have d0 := fun o => hbB.cell (p := ⟨w.heap.size, o, none⟩) (by first | omega | (simp <;> omega))
      have d1 := fun o => hbB.frozen (p := ⟨w.heap.size, o, none⟩) (by first | omega | (simp <;> omega))
      have d2 : w.heap.size < wB.heap.size := by omega
      have g0 := fun o => hbB.cell (p := ⟨wA.heap.size, o, none⟩) (by first | omega | (simp <;> omega))
      have g1 := fun o => hbB.frozen (p := ⟨wA.heap.size, o, none⟩) (by first | omega | (simp <;> omega))
      have g2 : wA.heap.size < wB.heap.size := by omega
      clear hbB zB
      go_wp2_with fail
      refine (I_FormatFilter 1 rr _ (hE.out.step (by repeat (first | (with_reducible exact Below.refl _ _) | (with_reducible assumption) | ((with_reducible refine Below.alloc ?_ ?_ _); rotate_left; (first | omega | (simp <;> omega))) | ((with_reducible refine Below.setCell ?_ ?_ _); rotate_left; (first | omega | (simp <;> omega))) | (with_reducible refine below_drewN ?_ _) | (with_reducible refine Below.drew ?_) | ((with_reducible refine Below.step (by assumption) ?_ ?_); rotate_left; (first | omega | (simp <;> omega)))))).tab).mono ?_
      rintro e wC ⟨rfl, hbC⟩
      have zC := hbC.size
      (try simp at zC)
      have bC : Below w.heap.size w wC := (by repeat (first | (with_reducible exact Below.refl _ _) | (with_reducible assumption) | ((with_reducible refine Below.alloc ?_ ?_ _); rotate_left; (first | omega | (simp <;> omega))) | ((with_reducible refine Below.setCell ?_ ?_ _); rotate_left; (first | omega | (simp <;> omega))) | (with_reducible refine below_drewN ?_ _) | (with_reducible refine Below.drew ?_) | ((with_reducible refine Below.step (by assumption) ?_ ?_); rotate_left; (first | omega | (simp <;> omega)))))
      have m0 := fun o => hbC.cell (p := ⟨w.heap.size, o, none⟩) (by first | omega | (simp <;> omega))
      have m1 := fun o => hbC.frozen (p := ⟨w.heap.size, o, none⟩) (by first | omega | (simp <;> omega))
      have m2 : w.heap.size < wC.heap.size := by omega
      have n0 := fun o => hbC.cell (p := ⟨wA.heap.size, o, none⟩) (by first | omega | (simp <;> omega))
      have n1 := fun o => hbC.frozen (p := ⟨wA.heap.size, o, none⟩) (by first | omega | (simp <;> omega))
      have n2 : wA.heap.size < wC.heap.size := by omega
      clear hbC zC
      go_wp2_with fail
      exact bodyPost_ret (v := vPF none) (by simp [results, Tryd.results12, go_sem, *]) rfl ⟨by rw [HR.out], (by repeat (first | (with_reducible exact Below.refl _ _) | (with_reducible assumption) | ((with_reducible refine Below.alloc ?_ ?_ _); rotate_left; (first | omega | (simp <;> omega))) | ((with_reducible refine Below.setCell ?_ ?_ _); rotate_left; (first | omega | (simp <;> omega))) | (with_reducible refine below_drewN ?_ _) | (with_reducible refine Below.drew ?_) | ((with_reducible refine Below.step (by assumption) ?_ ?_); rotate_left; (first | omega | (simp <;> omega)))))⟩
set_option maxHeartbeats 8000000 in
theorem S_ParseFilter (l : List UInt8) (w : World) (hlim : l.length ≤ 1048576) :
    Calls Tryd.prog 11 #[str l] w fun e w' => e = .returned (vPF (parseF l)) ∧ Below w.heap.size w w' := by
  have HO : Hid (Own (w.alloc (.cells #[.int .i64 0, .int .i64 0] 25)) w.heap.size 25 [.int .i64 0, .int .i64 0]) := Lib.hid (Own.new _ _ #[_, _])
  go_enter Tryd.func11, Tryd.ntmps11
  go_wp2_with fail
  go_loopw [4] (fun p wr => ∃ k : Nat, 1 ≤ k ∧ k ≤ 3 ∧ p = .int .i64 k ∧ (∀ k' r' : Int, validF k' r' = true → k' < k → fmtF k' r' ≠ l) ∧ Own wr w.heap.size 25 [.int .i64 0, .int .i64 0] ∧ Below w.heap.size w wr) (fun p _ => 3 - (RowKit.intOf p).toNat)
  case atStart => exact ⟨1, by omega, by omega, rfl, fun k' r' hv hk => by have := (validF_rng hv).1; omega, HO.out, (by repeat (first | (with_reducible exact Below.refl _ _) | (with_reducible assumption) | ((with_reducible refine Below.alloc ?_ ?_ _); rotate_left; (first | omega | (simp <;> omega))) | ((with_reducible refine Below.setCell ?_ ?_ _); rotate_left; (first | omega | (simp <;> omega))) | (with_reducible refine below_drewN ?_ _) | (with_reducible refine Below.drew ?_) | ((with_reducible refine Below.step (by assumption) ?_ ?_); rotate_left; (first | omega | (simp <;> omega)))))⟩
  case round =>
    obtain ⟨k, hk1, hk3, rfl, hno, ho, hb⟩ := hrel
    obtain ⟨wo, rfl⟩ : ∃ wo, wo = wr := ⟨_, rfl⟩
    have HNO := Lib.hid hno
    have HW := Lib.hid ho
    have HB := Lib.hid hb
    have zo := hb.size
    have zo' := ho.lt
    clear hno ho hb HO
    by_cases hk : k = 3
    · subst hk
      have HR : Hid (parseF l = none) := Lib.hid (parseF_none (fun k' r' hv => HNO.out k' r' hv (by obtain ⟨a1, a2, _, _⟩ := validF_rng hv; omega)))
      have o0 := HW.out.cell 0
      have o1 := HW.out.cell 1
      have of := HW.out.frozen
      simp only [List.getElem?_cons_zero, List.getElem?_cons_succ] at o0 o1
      rw [show ((3 : Nat) : Int) = 3 from rfl]
      go_wp2_with fail
      exact bodyPost_ret (v := vPF none) (by simp [results, Tryd.results11, go_sem, *]) rfl ⟨by rw [HR.out], (by repeat (first | (with_reducible exact Below.refl _ _) | (with_reducible exact HB.out) | (with_reducible assumption) | ((with_reducible refine Below.alloc ?_ ?_ _); rotate_left; (first | omega | (simp <;> omega))) | ((with_reducible refine Below.setCell ?_ ?_ _); rotate_left; (first | omega | (simp <;> omega))) | (with_reducible refine below_drewN ?_ _) | (with_reducible refine Below.drew ?_) | ((with_reducible refine Below.step (by assumption) ?_ ?_); rotate_left; (first | omega | (simp <;> omega)))))⟩
    · have hk2 : (k : Int) ≤ 2 := by omega
      have hkw : IntKind.i64.wrap ((k : Int) + 1) = k + 1 := IntWalk.i64_in _ (by omega)
      clear hk
      go_wp2_with fail
      go_loopw [5] (fun p wr => ∃ r : Nat, 1 ≤ r ∧ r ≤ 4 ∧ p = .int .i64 r ∧ (∀ r' : Int, validF k r' = true → r' < r → fmtF k r' ≠ l) ∧ Own wr w.heap.size 25 [.int .i64 0, .int .i64 0] ∧ Below w.heap.size w wr) (fun p _ => 4 - (RowKit.intOf p).toNat)
      case atStart => exact ⟨1, by omega, by omega, rfl, fun r' hv hr => by have := (validF_rng hv).2.2.1; omega, HW.out, HB.out⟩
      case round =>
        obtain ⟨r, hr1, hr4, rfl, hno2, ho, hb⟩ := hrel
        have HNO2 := Lib.hid hno2
        have HW2 := Lib.hid ho
        have HB2 := Lib.hid hb
        have zr := hb.size
        have zr' := ho.lt
        clear hno2 ho hb
        by_cases hr : r = 4
        · subst hr
          rw [show ((4 : Nat) : Int) = 4 from rfl]
          go_wp2_with fail
          go_roundw
          case rel =>
            refine ⟨k + 1, by omega, by omega, by go_num, fun k' r' hv hk' => ?_, HW2.out, HB2.out⟩
            obtain ⟨a1, a2, a3, a4⟩ := validF_rng hv
            by_cases hkk : k' < k
            · exact HNO.out k' r' hv hkk
            · obtain rfl : k' = (k : Int) := by omega
              exact HNO2.out r' hv (by omega)
          case measure => simp [RowKit.intOf]; omega
        · have hr3 : (r : Int) ≤ 3 := by omega
          have hrw : IntKind.i64.wrap ((r : Int) + 1) = r + 1 := IntWalk.i64_in _ (by omega)
          have hv : validF (k : Int) (r : Int) = true := by unfold validF; rw [inB_mk (by omega) (by omega), inB_mk (by omega) (by omega)]; rfl
          clear hr
          have o0 := HW2.out.cell 0
          have o1 := HW2.out.cell 1
          have of := HW2.out.frozen
          simp only [List.getElem?_cons_zero, List.getElem?_cons_succ] at o0 o1
          by_cases hf : fmtF (k : Int) (r : Int) = l
          · have HR : Hid (parseF l = some ((k : Int), (r : Int))) := Lib.hid (parseF_some hv hf)
            have hfb : (fmtF (k : Int) (r : Int) == l) = true := by simpa using hf
            go_wp2_with fail
            refine (S_FormatFilter _ _ _).mono ?_
            rintro e wC ⟨rfl, hbC⟩
            have zC := hbC.size
            (try simp at zC)
            have bC : Below w.heap.size w wC := (by repeat (first | (with_reducible exact Below.refl _ _) | (with_reducible exact HB2.out) | (with_reducible assumption) | ((with_reducible refine Below.alloc ?_ ?_ _); rotate_left; (first | omega | (simp <;> omega))) | ((with_reducible refine Below.setCell ?_ ?_ _); rotate_left; (first | omega | (simp <;> omega))) | (with_reducible refine below_drewN ?_ _) | (with_reducible refine Below.drew ?_) | ((with_reducible refine Below.step (by assumption) ?_ ?_); rotate_left; (first | omega | (simp <;> omega)))))
            have m0 := fun o => hbC.cell (p := ⟨w.heap.size, o, none⟩) (by first | omega | (simp <;> omega))
            have m1 := fun o => hbC.frozen (p := ⟨w.heap.size, o, none⟩) (by first | omega | (simp <;> omega))
            have m2 : w.heap.size < wC.heap.size := by omega
            have n0 := fun o => hbC.cell (p := ⟨wr.heap.size, o, none⟩) (by first | omega | (simp <;> omega))
            have n2 : wr.heap.size < wC.heap.size := by omega
            have ne : ¬ w.heap.size = wr.heap.size := by omega
            have ne' : ¬ wr.heap.size = w.heap.size := by omega
            clear hbC zC
            go_wp2_with fail
            exact bodyPost_ret (v := vPF (some ((k : Int), (r : Int)))) (by simp [results, Tryd.results11, go_sem, *]) rfl ⟨by rw [HR.out], (by repeat (first | (with_reducible exact Below.refl _ _) | (with_reducible assumption) | ((with_reducible refine Below.alloc ?_ ?_ _); rotate_left; (first | omega | (simp <;> omega))) | ((with_reducible refine Below.setCell ?_ ?_ _); rotate_left; (first | omega | (simp <;> omega))) | (with_reducible refine below_drewN ?_ _) | (with_reducible refine Below.drew ?_) | ((with_reducible refine Below.step (by assumption) ?_ ?_); rotate_left; (first | omega | (simp <;> omega)))))⟩
          · have hfb : (fmtF (k : Int) (r : Int) == l) = false := by simpa using hf
            go_wp2_with fail
            refine (S_FormatFilter _ _ _).mono ?_
            rintro e wC ⟨rfl, hbC⟩
            have bC : Below w.heap.size w wC := (by repeat (first | (with_reducible exact Below.refl _ _) | (with_reducible exact HB2.out) | (with_reducible assumption) | ((with_reducible refine Below.alloc ?_ ?_ _); rotate_left; (first | omega | (simp <;> omega))) | ((with_reducible refine Below.setCell ?_ ?_ _); rotate_left; (first | omega | (simp <;> omega))) | (with_reducible refine below_drewN ?_ _) | (with_reducible refine Below.drew ?_) | ((with_reducible refine Below.step (by assumption) ?_ ?_); rotate_left; (first | omega | (simp <;> omega)))))
            have HW3 : Hid (Own wC w.heap.size 25 [.int .i64 0, .int .i64 0]) := Lib.hid (Own.step hbC (by repeat (first | (with_reducible exact HW2.out) | ((with_reducible refine Own.far ?_ ?_ _); rotate_left; (first | omega | (simp <;> omega))) | (with_reducible refine Own.alloc ?_ _) | (with_reducible refine Own.drewN ?_ _) | (with_reducible refine Own.drew ?_) | (with_reducible refine Own.step (by assumption) ?_))))
            clear hbC o0 o1 of
            go_wp2_with fail
            go_roundw
            case rel =>
              refine ⟨r + 1, by omega, by omega, by go_num, fun r' hv' hr' => ?_, HW3.out, bC⟩
              by_cases hrr : r' < r
              · exact HNO2.out r' hv' hrr
              · obtain rfl : r' = (r : Int) := by omega
                exact hf
            case measure => simp [RowKit.intOf]; omega
set_option maxHeartbeats 4000000 in
theorem L_ExParseFilter (l : List UInt8) (w : World) (hs : l.length ≤ 9223372036854775807) (he : Env w) :
    Calls Tryd.prog 4 #[str l] w fun e w' => e = .returned (.bool true) ∧ Below w.heap.size w w' := by
  by_cases hbig : 1048576 < l.length
  · have hb1 : (1048576 : Int) < (l.length : Int) := by omega
    clear hbig
    go_enter Tryd.func4, Tryd.ntmps4
    go_wp2_with fail
    go_ret
    exact ⟨rfl, (by repeat (first | (with_reducible exact Below.refl _ _) | (with_reducible assumption) | ((with_reducible refine Below.alloc ?_ ?_ _); rotate_left; (first | omega | (simp <;> omega))) | ((with_reducible refine Below.setCell ?_ ?_ _); rotate_left; (first | omega | (simp <;> omega))) | (with_reducible refine below_drewN ?_ _) | (with_reducible refine Below.drew ?_) | ((with_reducible refine Below.step (by assumption) ?_ ?_); rotate_left; (first | omega | (simp <;> omega)))))⟩
  · have hb1 : ¬ (1048576 : Int) < (l.length : Int) := by omega
    have hE := Lib.hid he
    obtain ⟨v, hv⟩ : ∃ v, parseF l = v := ⟨_, rfl⟩
    have HS : Hid (∀ wx, Calls Tryd.prog 11 #[str l] wx fun e w' => e = .returned (vPF v) ∧ Below wx.heap.size wx w') := Lib.hid (fun wx => by have := S_ParseFilter l wx (by omega); rwa [hv] at this)
    have HI : Hid (∀ wx, Env wx → Calls Tryd.prog 12 #[str l] wx fun e w' => e = .returned (vPF v) ∧ Below wx.heap.size wx w') := Lib.hid (fun wx hx => by have := I_ParseFilter l wx (by omega) hx; rwa [hv] at this)
    obtain ⟨p, q, o, hpq⟩ : ∃ (p q : Int) (o : Bool), vPF v = .tuple #[vFilter p q, .bool o] := ⟨_, _, _, rfl⟩
    rw [hpq] at HS HI
    clear hv hpq hbig he v hs
    go_enter Tryd.func4, Tryd.ntmps4
    go_wp2_with fail
    refine (HS.out _).mono ?_
    rintro e wA ⟨rfl, hbA⟩
    have zA := hbA.size
    go_wp2_with fail
    refine (HI.out _ (hE.out.step (by repeat (first | (with_reducible exact Below.refl _ _) | (with_reducible assumption) | ((with_reducible refine Below.alloc ?_ ?_ _); rotate_left; (first | omega | (simp <;> omega))) | ((with_reducible refine Below.setCell ?_ ?_ _); rotate_left; (first | omega | (simp <;> omega))) | (with_reducible refine below_drewN ?_ _) | (with_reducible refine Below.drew ?_) | ((with_reducible refine Below.step (by assumption) ?_ ?_); rotate_left; (first | omega | (simp <;> omega))))))).mono ?_
    rintro e wB ⟨rfl, hbB⟩
    have zB := hbB.size
    (try simp at zB)
    have bB : Below w.heap.size w wB := (by repeat (first | (with_reducible exact Below.refl _ _) | (with_reducible assumption) | ((with_reducible refine Below.alloc ?_ ?_ _); rotate_left; (first | omega | (simp <;> omega))) | ((with_reducible refine Below.setCell ?_ ?_ _); rotate_left; (first | omega | (simp <;> omega))) | (with_reducible refine below_drewN ?_ _) | (with_reducible refine Below.drew ?_) | ((with_reducible refine Below.step (by assumption) ?_ ?_); rotate_left; (first | omega | (simp <;> omega)))))
    have n0 := fun o => hbB.cell (p := ⟨wA.heap.size, o, none⟩) (by first | omega | (simp <;> omega))
    have n2 : wA.heap.size < wB.heap.size := by omega
    have ne : ¬ wA.heap.size = wB.heap.size := by omega
    have ne' : ¬ wB.heap.size = wA.heap.size := by omega
    clear hbB
    go_wp2_with fail
    refine (L_eqFilter _ _ _).mono ?_
    rintro e wC ⟨rfl, hbC⟩
    go_wp2_with fail
    go_ret
    exact ⟨rfl, (by repeat (first | (with_reducible exact Below.refl _ _) | (with_reducible assumption) | ((with_reducible refine Below.alloc ?_ ?_ _); rotate_left; (first | omega | (simp <;> omega))) | ((with_reducible refine Below.setCell ?_ ?_ _); rotate_left; (first | omega | (simp <;> omega))) | (with_reducible refine below_drewN ?_ _) | (with_reducible refine Below.drew ?_) | ((with_reducible refine Below.step (by assumption) ?_ ?_); rotate_left; (first | omega | (simp <;> omega)))))⟩
def fnExactParseFilterLaid : List (String × DataW Unit) := [("math/bits.deBruijn32tab", Rows.laid_math_bits_deBruijn32tab), ("math/bits.deBruijn64tab", Rows.laid_math_bits_deBruijn64tab), ("internal/strconv.uint64pow10", Rows.laid_internal_strconv_uint64pow10), ("strconv.ErrRange", Rows.laid_strconv_ErrRange), ("strconv.ErrSyntax", Rows.laid_strconv_ErrSyntax)]
theorem FnExactParseFilter_walk : LawWalkD fnExactParseFilterLaid 4 [9] := by
  intro H enc W base args ds ps hA hval hlt hsz hL hsh
  obtain ⟨v0, rfl, h0⟩ := args1 hA hval
  obtain ⟨s, rfl, hs⟩ := h0.string Tryd.underlying9
  exact L_ExParseFilter s.data.toList W (by have h := hs; unfold maxLen at h; simpa using h) (Env.of_laid hL hsh)
end Go.Proofs.YtlepnjahpmlccaaDoor
