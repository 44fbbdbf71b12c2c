/- What a run of the machine comes to: an error's number is not nought, and a run that ends well keeps the bounds. -/
import Derived.Test.YtbgfkepnlpgagaaDoorG1
import Derived.Test.YtbgfkepnlpgagaaDoorP1
namespace Go.Proofs.YtbgfkepnlpgagaaDoor.P
open Go.RowKit Go.Proofs.YtbgfkepnlpgagaaDoorW.PrintWords
set_option linter.unusedVariables false
theorem pushP_err {s : St} {x e : Int} (h : pushP s x = .error e) : e ≠ 0 := by
  unfold pushP at h
  split at h
  · cases h
  · injection h with h; omega
theorem execP_err {gl : List Int} {cP : Int} {s : St} {op a b e : Int} (h : execP gl cP s op a b = .error e) : e ≠ 0 := by
  unfold execP at h
  repeat' split at h
  · exact pushP_err h
  · unfold loadP at h; split at h
    · exact pushP_err h
    · injection h with h; omega
  · unfold storeP at h; split at h
    · injection h with h; omega
    · split at h
      · cases h
      · injection h with h; omega
  · unfold notP at h; split at h
    · injection h with h; omega
    · exact pushP_err h
  · unfold branchP at h; split at h
    · injection h with h; omega
    · split at h
      · cases h
      · injection h with h; omega
  · cases h
  · unfold noteP at h; split at h
    · injection h with h; omega
    · cases h
  · cases h
  · unfold loopP at h; split at h
    · split at h <;> cases h
    · injection h with h; omega
  · unfold binaryP at h; split at h
    · injection h with h; omega
    · exact pushP_err h
theorem stepP_err {f : Nat → Int × Int × Int} {L : Nat} {gl : List Int} {cP : Int} {s : St} {e : Int} (h : stepP f L gl cP s = .error e) : e ≠ 0 := by
  unfold stepP at h
  repeat' split at h
  · exact execP_err h
  · injection h with h; omega
  · injection h with h; omega
  · injection h with h; omega
theorem runP_err {f : Nat → Int × Int × Int} {L : Nat} {gl : List Int} {cP : Int} : ∀ (n : Nat) (s : St) {e : Int}, runP f L gl cP n s = .error e → e ≠ 0 := by
  intro n
  induction n with
  | zero => intro s e h; unfold runP at h; injection h with h; omega
  | succ n ih =>
    intro s e h
    unfold runP at h
    split at h
    · cases h
    · split at h
      · exact ih _ h
      · next e' he => injection h with h; subst h; exact stepP_err he
theorem runP_gd {f : Nat → Int × Int × Int} {L : Nat} {gl : List Int} {P : Int} : ∀ (n : Nat) (s : St) {s' : St}, Gd P s → runP f L gl P n s = .ok s' → Gd P s' ∧ s'.done = true := by
  intro n
  induction n with
  | zero => intro s s' hg h; unfold runP at h; cases h
  | succ n ih =>
    intro s s' hg h
    unfold runP at h
    split at h
    · next hd => injection h with h; subst h; exact ⟨hg, hd⟩
    · next hd =>
      split at h
      · next s2 hs => exact ih _ (step_gd hg (Bool.eq_false_iff.2 hd) hs).1 h
      · cases h
theorem validP_more {V P : Int} {l : List Int} (h : validP V P l = true) : 0 ≤ P ∧ P ≤ 8 ∧ (l.length : Int) ≤ V ∧ V ≤ 400 ∧ l.any oddP = false := by
  unfold validP at h
  simp only [Bool.and_eq_true, decide_eq_true_eq, Bool.not_eq_true'] at h
  exact ⟨h.1, h.2.1, h.2.2.1, h.2.2.2.1, h.2.2.2.2⟩
theorem init_gd' {V P : Int} {l : List Int} (h : validP V P l = true) : Gd P (initS V P l) := by
  obtain ⟨h1, h2, h3, h4, h5⟩ := validP_more h
  obtain ⟨P, rfl⟩ := Int.eq_ofNat_of_zero_le h1
  obtain ⟨V, rfl⟩ := Int.eq_ofNat_of_zero_le (show 0 ≤ V by omega)
  exact init_gd V P l (by omega) (by omega) h5
/-- A run that ended well. -/
structure Well (l0 : List S42) (V P : Int) (l1 l2 : List Int) (st : St) : Prop where
  vd : validP V P l1 = true
  run : runP (insF l0) l0.length l2 P 3002 (initS V P l1) = .ok st
  gd : Gd P st
  dn : st.done = true
theorem run_cases (l0 : List S42) (V P : Int) (l1 l2 : List Int) (h1 : l1.length ≤ 4611686018427387904) (h2 : l2.length ≤ 4611686018427387904) :
    (∃ e : Int, e ≠ 0 ∧ vm_Run.f l0 V P l1 l2 = some ([], [], 0, 0, e)) ∨ (∃ st, Well l0 V P l1 l2 st ∧ vm_Run.f l0 V P l1 l2 = some (st.pts, st.notes, st.fin, st.steps, 0)) := by
  unfold vm_Run.f
  rw [if_pos ⟨h1, h2⟩]
  cases hv : validP V P l1
  · left; exact ⟨1, by decide, rfl⟩
  · rw [if_pos rfl]
    cases hr : runP (insF l0) l0.length l2 P 3002 (initS V P l1) with
    | error e => left; exact ⟨e, runP_err _ _ hr, rfl⟩
    | ok st => right; obtain ⟨hg, hd⟩ := runP_gd _ _ (init_gd' hv) hr; exact ⟨st, ⟨hv, hr, hg, hd⟩, rfl⟩
theorem small_f (l0 : List S42) (V P : Int) (l1 l2 : List Int) : bootchainlaw17_small.f l0 V P l1 l2 = some (decide (l0.length ≤ 200 ∧ l1.length ≤ 20 ∧ l2.length ≤ 20)) := by
  unfold bootchainlaw17_small.f
  by_cases a : l0.length ≤ 200
  · rw [if_pos (by omega)]
    by_cases b : l1.length ≤ 20
    · rw [if_pos (by omega)]
      congr 1
      simp [a, b]
      omega
    · rw [if_neg (by omega)]; simp [b]
  · rw [if_neg (by omega)]; simp [a]
theorem ints_l0r (l : List Int) (hl : l.length ≤ 9223372036854775807) (d : Nat) : ∀ (k i : Nat), i + d = l.length → d < k → bootchainref17_Ints.l0 k l l (i : Int) = some true := by
  induction d with
  | zero =>
    intro k i hi hk
    obtain ⟨k, rfl⟩ : ∃ m, k = m + 1 := ⟨k - 1, by omega⟩
    simp only [bootchainref17_Ints.l0]
    rw [if_neg (by omega)]
  | succ d ih =>
    intro k i hi hk
    obtain ⟨k, rfl⟩ : ∃ m, k = m + 1 := ⟨k - 1, by omega⟩
    simp only [bootchainref17_Ints.l0]
    rw [if_pos (by omega), if_pos (by omega), if_pos (by omega), if_pos trivial]
    have e : wrap64 ((i : Int) + 1) = ((i + 1 : Nat) : Int) := by unfold wrap64; omega
    rw [e]
    exact ih k (i + 1) (by omega) (by omega)
theorem ints_rfl (l : List Int) (hl : l.length ≤ 9223372036854775807) (k : Nat) (hk : l.length < k) : bootchainref17_Ints.f k l l = some true := by
  unfold bootchainref17_Ints.f
  rw [if_pos rfl]
  exact ints_l0r l hl l.length k 0 (by omega) hk
theorem same_rfl (k : Nat) (p n : List Int) (f s : Int) (hp : p.length < k) (hn : n.length < k) (hk : k ≤ 9223372036854775807) : bootchainref17_Same.f k p n f s p n f s = some true := by
  unfold bootchainref17_Same.f
  rw [ints_rfl p (by omega) _ hp]
  simp only [Option.bind_some, if_true]
  rw [ints_rfl n (by omega) _ hn]
  simp
/-- A run that ended well is short. -/
theorem Well.short {l0 : List S42} {V P : Int} {l1 l2 : List Int} {st : St} (h : Well l0 V P l1 l2 st) : st.pts.length < 5000 ∧ st.notes.length < 5000 ∧ 1 ≤ st.steps ∧ st.steps ≤ 3000 := by
  have h1 := h.gd.pP
  have h2 := (validP_more h.vd).2.1
  have h3 := h.gd.dn h.dn
  have h4 := h.gd.t3
  omega
end Go.Proofs.YtbgfkepnlpgagaaDoor.P
