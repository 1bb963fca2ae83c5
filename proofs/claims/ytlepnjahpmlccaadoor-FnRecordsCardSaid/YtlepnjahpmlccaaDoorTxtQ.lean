/- ParseInt, of the reference and of the program. -/
import Derived.Test.YtlepnjahpmlccaaDoorTxtE
namespace Go.Proofs.YtlepnjahpmlccaaDoor
open Go.RowKit Go.Lib
set_option linter.unusedVariables false
set_option maxRecDepth 100000
/-- An integer and whether there is one. -/
abbrev vPI (o : Option Int) : Value := .tuple #[.int .i64 (o.getD 0), .bool o.isSome]
theorem str_eq (a b : List UInt8) : ({ data := a.toArray } : ByteArray) = { data := b.toArray } ↔ a = b := by
  constructor
  · intro h
    have := congrArg (fun x : ByteArray => x.data.toList) h
    simpa using this
  · rintro rfl; rfl
theorem below_bytes (w : World) (t : TypeId) (s : ByteArray) : Below w.heap.size w (Lib.bytesWorld w t s) :=
  ⟨rfl, rfl, rfl, by rw [Lib.bytesWorld_size]; omega, fun j hj => Lib.bytesWorld_at_old w t s j hj⟩
set_option maxHeartbeats 4000000 in
theorem I_ParseInt (l : List UInt8) (w : World) (hlim : l.length ≤ 281474976710656) (he : Env w) :
    Calls Tryd.prog 32 #[str l] w fun e w' => e = .returned (vPI (parseI l)) ∧ Below w.heap.size w w' := by
  by_cases hok : ∃ v, atoiAll l = .ok v
  · obtain ⟨v, ha⟩ := hok
    have hp := parseI_atoiAll (l := l)
    rw [ha] at hp
    have HP := Lib.hid hp
    clear hp
    go_enter Tryd.func32, Tryd.ntmps32
    go_wp2_with fail
    refine (Tryd.strconv_Atoi_ok ⟨l.toArray⟩ (by show l.length ≤ _; omega) v ha _).mono ?_
    rintro e w' ⟨rfl, hw⟩
    have hb : Below w.heap.size w w' := by
      rcases hw with rfl | ⟨t, rfl⟩
      · exact Below.refl _ _
      · exact below_bytes _ _ _
    clear hw
    have hne : ¬ l = [] := by rintro rfl; cases ha
    have hle : l.isEmpty = false := by cases l with | nil => exact absurd rfl hne | cons => rfl
    by_cases hf : fmtI v = l
    · have HF : Hid (parseI l = some v) := Lib.hid (by rw [HP.out, if_pos ⟨hf, hne⟩])
      go_wp2_with fail
      refine (I_FormatInt v _ (he.tab.step hb)).mono ?_
      rintro e w2 ⟨rfl, hb2⟩
      go_wp2_with fail
      exact bodyPost_ret (v := vPI (some v)) (by simp [results, Tryd.results32, go_sem]) rfl ⟨by rw [HF.out], Below.step hb2 hb hb.size⟩
    · have HF : Hid (parseI l = none) := Lib.hid (by rw [HP.out, if_neg (fun h => hf h.1)])
      have hfb : (fmtI v == l) = false := by simpa using hf
      go_wp2_with fail
      refine (I_FormatInt v _ (he.tab.step hb)).mono ?_
      rintro e w2 ⟨rfl, hb2⟩
      go_wp2_with fail
      exact bodyPost_ret (v := vPI none) (by simp [results, Tryd.results32, go_sem]) rfl ⟨by rw [HF.out], Below.step hb2 hb hb.size⟩
  · have HP : Hid (parseI l = none) := Lib.hid (by
      rw [parseI_atoiAll]
      cases ha : atoiAll l
      · exact absurd ⟨_, ha⟩ hok
      · rfl
      · rfl)
    have hbad : ∀ v, atoiAll l ≠ .ok v := fun v ha => hok ⟨v, ha⟩
    clear hok
    go_enter Tryd.func32, Tryd.ntmps32
    go_wp2_with fail
    refine (Atoi_bad ⟨l.toArray⟩ hlim hbad _ he).mono ?_
    rintro e w' ⟨v, N, rfl, hb⟩
    go_wp2_with fail
    exact bodyPost_ret (v := vPI none) (by simp [results, Tryd.results32, go_sem]) rfl ⟨by rw [HP.out], hb⟩
end Go.Proofs.YtlepnjahpmlccaaDoor
