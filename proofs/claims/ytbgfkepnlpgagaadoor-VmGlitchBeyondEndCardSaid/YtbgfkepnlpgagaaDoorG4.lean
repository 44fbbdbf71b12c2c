/- The plain law of VmGlitchBeyondEnd. -/
import Derived.Test.YtbgfkepnlpgagaaDoorG2
import Derived.Test.YtbgfkepnlpgagaaDoorL3
namespace Go.Proofs.YtbgfkepnlpgagaaDoor.P
open Go.RowKit Go.Proofs.YtbgfkepnlpgagaaDoorW.PrintWords
set_option linter.unusedVariables false
abbrev hitB (gl : List Int) (y : Int) : Bool := gl.any fun x => y == x
theorem stepP_glitch {f : Nat → Int × Int × Int} {L : Nat} {gl gl' : List Int} {cP : Int} {s : St} (h : hitB gl s.br = hitB gl' s.br) : stepP f L gl cP s = stepP f L gl' cP s := by
  unfold hitB at h
  unfold stepP execP branchP
  simp only [h]
theorem runP_steps {f : Nat → Int × Int × Int} {L : Nat} {gl : List Int} {P : Int} : ∀ (n : Nat) (s : St) {s' : St}, Gd P s → runP f L gl P n s = .ok s' → s.steps ≤ s'.steps := by
  intro n
  induction n with
  | zero => intro s s' hg h; unfold runP at h; cases h
  | succ n ih =>
    intro s s' hg h
    unfold runP at h
    split at h
    · injection h with h; subst h; exact Int.le_refl _
    · next hd =>
      split at h
      · next s2 hs =>
        obtain ⟨h1, h2⟩ := step_gd hg (Bool.eq_false_iff.2 hd) hs
        have h3 := ih _ h1 h
        omega
      · cases h
/-- A run that ended is the same under glitches that agree up to its end. -/
theorem runP_glitch_ok {f : Nat → Int × Int × Int} {L : Nat} {gl gl' : List Int} {P : Int} : ∀ (n : Nat) (s : St) {s' : St}, Gd P s → runP f L gl P n s = .ok s' → (∀ y : Int, 0 ≤ y → y < s'.steps → hitB gl y = hitB gl' y) → runP f L gl' P n s = .ok s' := by
  intro n
  induction n with
  | zero => intro s s' hg h; unfold runP at h; cases h
  | succ n ih =>
    intro s s' hg h ha
    unfold runP at h ⊢
    split at h
    · next hd => rw [if_pos hd]; exact h
    · next hd =>
      rw [if_neg hd]
      split at h
      · next s2 hs =>
        obtain ⟨h1, h2⟩ := step_gd hg (Bool.eq_false_iff.2 hd) hs
        have h3 := runP_steps n s2 h1 h
        have h4 := hg.b1
        rw [← stepP_glitch (gl := gl) (gl' := gl') (ha s.br hg.b0 (by omega)), hs]
        exact ih s2 h1 h ha
      · cases h
/-- Any run is the same under glitches that agree below 3000. -/
theorem runP_glitch {f : Nat → Int × Int × Int} {L : Nat} {gl gl' : List Int} {P : Int} (ha : ∀ y : Int, 0 ≤ y → y < 3000 → hitB gl y = hitB gl' y) : ∀ (n : Nat) (s : St), Gd P s → runP f L gl P n s = runP f L gl' P n s := by
  intro n
  induction n with
  | zero => intro s hg; rfl
  | succ n ih =>
    intro s hg
    unfold runP
    by_cases hd : s.done = true
    · rw [if_pos hd, if_pos hd]
    · rw [if_neg hd, if_neg hd]
      have e : stepP f L gl P s = stepP f L gl' P s := by
        by_cases h3 : s.steps < 3000
        · have h4 := hg.b1
          exact stepP_glitch (ha s.br hg.b0 (by omega))
        · unfold stepP; rw [if_neg h3, if_neg h3]
      rw [← e]
      cases hs : stepP f L gl P s with
      | error x => rfl
      | ok s2 => exact ih s2 (step_gd hg (Bool.eq_false_iff.2 hd) hs).1
theorem vm_glitch (l0 : List S42) (V P : Int) (l1 l2 l3 : List Int) (h2 : l2.length ≤ 4611686018427387904) (h3 : l3.length ≤ 4611686018427387904) (ha : ∀ y : Int, 0 ≤ y → y < 3000 → hitB l2 y = hitB l3 y) : vm_Run.f l0 V P l1 l2 = vm_Run.f l0 V P l1 l3 := by
  unfold vm_Run.f
  by_cases h1 : l1.length ≤ 4611686018427387904
  · have c2 : l1.length ≤ 4611686018427387904 ∧ l2.length ≤ 4611686018427387904 := ⟨h1, h2⟩
    have c3 : l1.length ≤ 4611686018427387904 ∧ l3.length ≤ 4611686018427387904 := ⟨h1, h3⟩
    rw [if_pos c2, if_pos c3]
    cases hv : validP V P l1
    · rw [if_neg (by decide), if_neg (by decide)]
    · rw [runP_glitch ha _ _ (init_gd' hv)]
  · have c2 : ¬ (l1.length ≤ 4611686018427387904 ∧ l2.length ≤ 4611686018427387904) := fun h => h1 h.1
    have c3 : ¬ (l1.length ≤ 4611686018427387904 ∧ l3.length ≤ 4611686018427387904) := fun h => h1 h.1
    rw [if_neg c2, if_neg c3]
theorem vm_glitch_ok {l0 : List S42} {V P : Int} {l1 l2 l3 : List Int} {st : St} (h1 : l1.length ≤ 4611686018427387904) (h3 : l3.length ≤ 4611686018427387904) (hw : Well l0 V P l1 l2 st) (ha : ∀ y : Int, 0 ≤ y → y < st.steps → hitB l2 y = hitB l3 y) : vm_Run.f l0 V P l1 l3 = some (st.pts, st.notes, st.fin, st.steps, 0) := by
  unfold vm_Run.f
  rw [if_pos ⟨h1, h3⟩, if_pos hw.vd, runP_glitch_ok _ _ (init_gd' hw.vd) hw.run ha]
  rfl
theorem hit_more (gl : List Int) (t y : Int) (h0 : 0 ≤ y) (a b : Int) (ha : a ≠ y) (hb : b ≠ y) : hitB gl y = hitB ([] ++ gl ++ gl ++ [a, b]) y := by
  have ha' : (y == a) = false := by simp; omega
  have hb' : (y == b) = false := by simp; omega
  unfold hitB
  simp [List.any_append, ha', hb']
theorem hit_more1 (gl : List Int) (y : Int) (h0 : 0 ≤ y) (a b c : Int) (ha : a ≠ y) (hb : b ≠ y) (hc : c ≠ y) : hitB gl y = hitB ([] ++ gl ++ gl ++ [a, b] ++ [c]) y := by
  have ha' : (y == a) = false := by simp; omega
  have hb' : (y == b) = false := by simp; omega
  have hc' : (y == c) = false := by simp; omega
  unfold hitB
  simp [List.any_append, ha', hb', hc']
theorem gb_j0 (l0 : List S42) (V P : Int) (l1 l2 : List Int) (far : Int) (hf : 0 ≤ far ∧ far ≤ 65535) (h1 : l1.length ≤ 20) (h2 : l2.length ≤ 10) : bootchainlaw17_VmGlitchBeyondEnd.j0 5001 l1 l2 far true false l0 V P = some true := by
  simp only [bootchainlaw17_VmGlitchBeyondEnd.j0]
  have e0 : wrap64 far = far := by unfold wrap64; omega
  have e1 : wrap64 (-1 - far) = -1 - far := by unfold wrap64; omega
  have e2 : wrap64 (3000 + far) = 3000 + far := by unfold wrap64; omega
  rw [if_neg (by decide), e0, e1, e2]
  have n1 : (([] : List Int)).length + l2.length < 17592186044416 := by simp; omega
  have n2 : ([] ++ l2 : List Int).length + l2.length < 17592186044416 := by simp; omega
  have n3 : ([] ++ l2 ++ l2 : List Int).length + ([-1 - far, 3000 + far] : List Int).length < 17592186044416 := by simp; omega
  have n4 : ([] ++ l2 ++ l2 ++ [-1 - far, 3000 + far] : List Int).length < 17592186044416 := by simp; omega
  rcases run_cases l0 V P l1 l2 (by omega) (by omega) with ⟨e, he, h⟩ | ⟨st, hw, h⟩
  · have h' : vm_Run.f l0 V P l1 ([] ++ l2 ++ l2 ++ [-1 - far, 3000 + far]) = some ([], [], 0, 0, e) := by
      rw [← vm_glitch l0 V P l1 l2 _ (by omega) (by simp; omega) (fun y hy0 hy3 => hit_more l2 0 y hy0 _ _ (by omega) (by omega)), h]
    rw [h]
    simp only [Option.bind_some, if_true]
    rw [if_pos n1, if_pos n2, if_pos n3, if_neg he, h']
    simp only [Option.bind_some, if_true]
    rw [same_rfl 5000 [] [] 0 0 (by decide) (by decide) (by decide)]
    rfl
  · obtain ⟨w1, w2, w3, w4⟩ := hw.short
    have e3 : wrap64 (st.steps + far) = st.steps + far := by unfold wrap64; omega
    have h' : vm_Run.f l0 V P l1 ([] ++ l2 ++ l2 ++ [-1 - far, 3000 + far] ++ [st.steps + far]) = some (st.pts, st.notes, st.fin, st.steps, 0) :=
      vm_glitch_ok (by omega) (by simp; omega) hw (fun y hy0 hy3 => hit_more1 l2 y hy0 _ _ _ (by omega) (by omega) (by omega))
    rw [h]
    simp only [Option.bind_some, if_true]
    rw [if_pos n1, if_pos n2, if_pos n3, if_pos n4, e3, h']
    simp only [Option.bind_some, if_true]
    rw [same_rfl 5000 st.pts st.notes st.fin st.steps w1 w2 (by decide)]
    rfl
theorem gb_pure (l0 : List S42) (V P : Int) (l1 l2 : List Int) (far : Int) (hf : 0 ≤ far ∧ far ≤ 65535) : bootchainlaw17_VmGlitchBeyondEnd.f 5001 l0 V P l1 l2 far = some true := by
  have ht : bootchainlaw17_VmGlitchBeyondEnd.j0 5001 l1 l2 far true true l0 V P = some true := by
    simp only [bootchainlaw17_VmGlitchBeyondEnd.j0]
    rw [if_pos trivial]
  unfold bootchainlaw17_VmGlitchBeyondEnd.f bootchainlaw17_sanity.f
  rw [small_f]
  simp only [Option.bind_some]
  by_cases hs : l0.length ≤ 200 ∧ l1.length ≤ 20 ∧ l2.length ≤ 20
  · rw [if_pos (decide_eq_true hs)]
    by_cases h10 : (l2.length : Int) > 10
    · rw [decide_eq_true h10]; exact ht
    · rw [decide_eq_false h10]; exact gb_j0 l0 V P l1 l2 far hf hs.2.1 (by omega)
  · rw [if_neg (by simpa using hs)]; exact ht
end Go.Proofs.YtbgfkepnlpgagaaDoor.P
