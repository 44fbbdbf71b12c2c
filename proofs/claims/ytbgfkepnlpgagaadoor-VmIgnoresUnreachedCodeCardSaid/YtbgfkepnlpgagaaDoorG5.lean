/- The plain law of VmIgnoresUnreachedCode. -/
import Derived.Test.YtbgfkepnlpgagaaDoorG2
import Derived.Test.YtbgfkepnlpgagaaDoorL4
namespace Go.Proofs.YtbgfkepnlpgagaaDoor.P
open Go.RowKit Go.Proofs.YtbgfkepnlpgagaaDoorW.PrintWords
set_option linter.unusedVariables false
abbrev ext (z : List Int) (s : St) : St := { s with vars := s.vars ++ z }
theorem getD_ext (l z : List Int) (i : Nat) (h : i < l.length) : (l ++ z).getD i 0 = l.getD i 0 := by
  simp [List.getD_eq_getElem?_getD, List.getElem?_append_left h]
theorem pushP_ext {z : List Int} {s s2 : St} {x : Int} (h : pushP s x = .ok s2) : pushP (ext z s) x = .ok (ext z s2) := by
  unfold pushP at h ⊢
  split at h
  · next h1 => injection h with h; subst h; rw [if_pos (show (ext z s).stack.length < 400 from h1)]
  · cases h
theorem loadP_ext {z : List Int} {s s2 : St} {a : Int} (h : loadP s a = .ok s2) : loadP (ext z s) a = .ok (ext z s2) := by
  unfold loadP at h ⊢
  split at h
  · next h1 =>
    have e : (ext z s).vars.getD a.toNat 0 = s.vars.getD a.toNat 0 := getD_ext _ _ _ (by omega)
    rw [if_pos (show 0 ≤ a ∧ a < ((ext z s).vars.length : Int) from ⟨h1.1, by show a < ((s.vars ++ z).length : Int); rw [List.length_append]; omega⟩), e]
    exact pushP_ext h
  · cases h
theorem storeP_ext {z : List Int} {s s2 : St} {a : Int} (h : storeP s a = .ok s2) : storeP (ext z s) a = .ok (ext z s2) := by
  unfold storeP at h ⊢
  split at h
  · cases h
  · next h0 =>
    rw [if_neg (show ¬ (ext z s).stack = [] from h0)]
    split at h
    · next h1 =>
      injection h with h
      subst h
      rw [if_pos (show 0 ≤ a ∧ a < ((ext z s).vars.length : Int) from ⟨h1.1, by show a < ((s.vars ++ z).length : Int); rw [List.length_append]; omega⟩)]
      show Except.ok ({ s with vars := (s.vars ++ z).set a.toNat _, stack := _ } : St) = _
      rw [List.set_append_left _ _ (by omega)]
    · cases h
theorem loopP_ext {z : List Int} {s s2 : St} {a b : Int} (h : loopP s a b = .ok s2) : loopP (ext z s) a b = .ok (ext z s2) := by
  unfold loopP at h ⊢
  split at h
  · next h1 =>
    have e : (ext z s).vars.getD a.toNat 0 = s.vars.getD a.toNat 0 := getD_ext _ _ _ (by omega)
    rw [if_pos (show 0 ≤ a ∧ a < ((ext z s).vars.length : Int) from ⟨h1.1, by show a < ((s.vars ++ z).length : Int); rw [List.length_append]; omega⟩), e]
    split at h
    · next h2 =>
      injection h with h
      subst h
      rw [if_pos h2]
      show Except.ok ({ s with vars := (s.vars ++ z).set a.toNat _ } : St) = _
      rw [List.set_append_left _ _ (by omega)]
    · next h2 =>
      injection h with h
      subst h
      rw [if_neg h2]
      show Except.ok ({ s with vars := (s.vars ++ z).set a.toNat _, pc := b } : St) = _
      rw [List.set_append_left _ _ (by omega)]
  · cases h
theorem notP_ext {z : List Int} {s s2 : St} (h : notP s = .ok s2) : notP (ext z s) = .ok (ext z s2) := by
  unfold notP at h ⊢
  split at h
  · cases h
  · next h0 =>
    rw [if_neg (show ¬ (ext z s).stack = [] from h0)]
    exact pushP_ext (z := z) h
theorem binaryP_ext {z : List Int} {s s2 : St} {op : Int} (h : binaryP s op = .ok s2) : binaryP (ext z s) op = .ok (ext z s2) := by
  unfold binaryP at h ⊢
  split at h
  · cases h
  · next h0 =>
    rw [if_neg (show ¬ (ext z s).stack.length ≤ 1 from h0)]
    exact pushP_ext (z := z) h
theorem noteP_ext {z : List Int} {s s2 : St} (h : noteP s = .ok s2) : noteP (ext z s) = .ok (ext z s2) := by
  unfold noteP at h ⊢
  split at h
  · cases h
  · next h0 =>
    rw [if_neg (show ¬ (ext z s).stack = [] from h0)]
    injection h with h
    subst h
    rfl
theorem branchP_ext {gl : List Int} {cP : Int} {z : List Int} {s s2 : St} {a b : Int} (h : branchP gl cP s a b = .ok s2) : branchP gl cP (ext z s) a b = .ok (ext z s2) := by
  unfold branchP at h ⊢
  split at h
  · cases h
  · next h0 =>
    rw [if_neg (show ¬ (ext z s).stack = [] from h0)]
    split at h
    · next h1 =>
      rw [if_pos h1]
      injection h with h
      subst h
      by_cases hc : ((s.stack.getLastD 0 != 0) != (gl.any fun y => s.br == y)) = true
      · rw [if_pos hc, if_pos (show (((ext z s).stack.getLastD 0 != 0) != (gl.any fun y => (ext z s).br == y)) = true from hc)]
      · rw [if_neg hc, if_neg (show ¬ (((ext z s).stack.getLastD 0 != 0) != (gl.any fun y => (ext z s).br == y)) = true from hc)]
    · cases h
theorem endP_ext (z : List Int) (s : St) (op a : Int) : endP (ext z s) op a = ext z (endP s op a) := by
  unfold endP
  split <;> rfl
theorem execP_ext {gl : List Int} {cP : Int} {z : List Int} {s s2 : St} {op a b : Int} (h : execP gl cP s op a b = .ok s2) : execP gl cP (ext z s) op a b = .ok (ext z s2) := by
  unfold execP at h ⊢
  split at h
  · next c => rw [if_pos c]; exact pushP_ext h
  · next c =>
    rw [if_neg c]
    split at h
    · next c => rw [if_pos c]; exact loadP_ext h
    · next c =>
      rw [if_neg c]
      split at h
      · next c => rw [if_pos c]; exact storeP_ext h
      · next c =>
        rw [if_neg c]
        split at h
        · next c => rw [if_pos c]; exact notP_ext h
        · next c =>
          rw [if_neg c]
          split at h
          · next c => rw [if_pos c]; exact branchP_ext h
          · next c =>
            rw [if_neg c]
            split at h
            · next c => rw [if_pos c]; injection h with h; subst h; rfl
            · next c =>
              rw [if_neg c]
              split at h
              · next c => rw [if_pos c]; exact noteP_ext h
              · next c =>
                rw [if_neg c]
                split at h
                · next c => rw [if_pos c, endP_ext]; injection h with h; subst h; rfl
                · next c =>
                  rw [if_neg c]
                  split at h
                  · next c => rw [if_pos c]; exact loopP_ext h
                  · next c => rw [if_neg c]; exact binaryP_ext h
theorem stepP_ext {f g : Nat → Int × Int × Int} {L M : Nat} (hLM : L ≤ M) (hf : ∀ j, j < L → g j = f j) {gl : List Int} {cP : Int} {z : List Int} {s s2 : St} (h : stepP f L gl cP s = .ok s2) : stepP g M gl cP (ext z s) = .ok (ext z s2) := by
  unfold stepP at h ⊢
  split at h
  · next h1 =>
    rw [if_pos (show (ext z s).steps < 3000 from h1)]
    split at h
    · next h2 =>
      rw [if_pos (show 0 ≤ (ext z s).pc ∧ (ext z s).pc < (M : Int) from ⟨h2.1, by show s.pc < (M : Int); omega⟩)]
      have e : g (ext z s).pc.toNat = f s.pc.toNat := hf _ (by show s.pc.toNat < L; omega)
      rw [e]
      split at h
      · next h3 =>
        rw [if_pos h3]
        exact execP_ext (z := z) h
      · cases h
    · cases h
  · cases h
theorem runP_ext {f g : Nat → Int × Int × Int} {L M : Nat} (hLM : L ≤ M) (hf : ∀ j, j < L → g j = f j) {gl : List Int} {cP : Int} (z : List Int) : ∀ (n : Nat) (s : St) {s2 : St}, runP f L gl cP n s = .ok s2 → runP g M gl cP n (ext z s) = .ok (ext z s2) := by
  intro n
  induction n with
  | zero => intro s s2 h; unfold runP at h; cases h
  | succ n ih =>
    intro s s2 h
    unfold runP at h ⊢
    split at h
    · next hd => rw [if_pos (show (ext z s).done = true from hd)]; injection h with h; subst h; rfl
    · next hd =>
      rw [if_neg (show ¬ (ext z s).done = true from hd)]
      split at h
      · next s3 hs => rw [stepP_ext hLM hf hs]; exact ih s3 h
      · cases h
theorem vm_ext {l0 : List S42} {V P : Int} {l1 l2 : List Int} {st : St} (more : List S42) (V' : Int) (hV : V ≤ V') (hV4 : V' ≤ 400) (h1 : l1.length ≤ 4611686018427387904) (h2 : l2.length ≤ 4611686018427387904) (hw : Well l0 V P l1 l2 st) : vm_Run.f (l0 ++ more) V' P l1 l2 = some (st.pts, st.notes, st.fin, st.steps, 0) := by
  obtain ⟨a1, a2, a3, a4, a5⟩ := validP_more hw.vd
  have hv : validP V' P l1 = true := by
    unfold validP
    simp only [Bool.and_eq_true, decide_eq_true_eq, Bool.not_eq_true']
    exact ⟨a1, a2, by omega, hV4, a5⟩
  have hi : initS V' P l1 = ext (List.replicate (V'.toNat - V.toNat) 0) (initS V P l1) := by
    unfold initS ext
    have e : l1 ++ List.replicate (V'.toNat - l1.length) (0 : Int) = l1 ++ List.replicate (V.toNat - l1.length) 0 ++ List.replicate (V'.toNat - V.toNat) 0 := by
      rw [List.append_assoc, List.replicate_append_replicate]
      congr 2
      omega
    rw [e]
  have hr := runP_ext (g := insF (l0 ++ more)) (M := (l0 ++ more).length) (by simp) (fun j hj => by
    have e : rd_T42 (l0 ++ more) (j : Nat) = rd_T42 l0 (j : Nat) := by unfold rd_T42; simp [List.getD_eq_getElem?_getD, List.getElem?_append_left hj]
    unfold insF
    rw [e]) (List.replicate (V'.toNat - V.toNat) 0) _ _ hw.run
  unfold vm_Run.f
  rw [if_pos ⟨h1, h2⟩, if_pos hv, hi, hr]
  rfl
theorem uc_j0 (l0 : List S42) (V P : Int) (l3 : List S42) (a : Int) (l1 l2 : List Int) (ha : 0 ≤ a ∧ a ≤ 255) (h0 : l0.length ≤ 100) (h3 : l3.length ≤ 100) (h1 : l1.length ≤ 20) (h2 : l2.length ≤ 20) : bootchainlaw17_VmIgnoresUnreachedCode.j0 5001 l3 a l1 l2 true false l0 V P = some true := by
  simp only [bootchainlaw17_VmIgnoresUnreachedCode.j0]
  rw [if_neg (by decide)]
  rcases run_cases l0 V P l1 l2 (by omega) (by omega) with ⟨e, he, h⟩ | ⟨st, hw, h⟩
  · rw [h]
    simp only [Option.bind_some]
    rw [if_neg he]
  · obtain ⟨w1, w2, w3, w4⟩ := hw.short
    obtain ⟨a1, a2, a3, a4, a5⟩ := validP_more hw.vd
    have e0 : wrap64 a = a := by unfold wrap64; omega
    have e1 : wrap64 (V + a) = V + a := by unfold wrap64; omega
    have n1 : (([] : List S42)).length + l0.length < 5864062014805 := by simp; omega
    have n2 : ([] ++ l0 : List S42).length + l3.length < 5864062014805 := by simp; omega
    have hm : V ≤ mn (V + a) 400 ∧ mn (V + a) 400 ≤ 400 := by unfold mn; split <;> omega
    have h' : vm_Run.f ([] ++ l0 ++ l3) (mn (V + a) 400) P l1 l2 = some (st.pts, st.notes, st.fin, st.steps, 0) := by
      rw [List.nil_append]
      exact vm_ext l3 _ hm.1 hm.2 (by omega) (by omega) hw
    rw [h]
    simp only [Option.bind_some, if_true]
    rw [if_pos n1]
    rw [if_pos n2, e0, e1, h']
    simp only [Option.bind_some, if_true]
    rw [same_rfl 5000 st.pts st.notes st.fin st.steps w1 w2 (by decide)]
    rfl
theorem uc_pure (l0 : List S42) (V P : Int) (l3 : List S42) (a : Int) (l1 l2 : List Int) (ha : 0 ≤ a ∧ a ≤ 255) : bootchainlaw17_VmIgnoresUnreachedCode.f 5001 l0 V P l3 a l1 l2 = some true := by
  have ht : bootchainlaw17_VmIgnoresUnreachedCode.j0 5001 l3 a l1 l2 true true l0 V P = some true := by
    simp only [bootchainlaw17_VmIgnoresUnreachedCode.j0]
    rw [if_pos trivial]
  unfold bootchainlaw17_VmIgnoresUnreachedCode.f bootchainlaw17_sanity.f
  rw [small_f]
  simp only [Option.bind_some]
  by_cases hs : l0.length ≤ 200 ∧ l1.length ≤ 20 ∧ l2.length ≤ 20
  · rw [if_pos (decide_eq_true hs)]
    by_cases h10 : (l0.length : Int) > 100
    · rw [if_pos h10]; exact ht
    · rw [if_neg h10]
      by_cases h11 : (l3.length : Int) > 100
      · rw [decide_eq_true h11]; exact ht
      · rw [decide_eq_false h11]; exact uc_j0 l0 V P l3 a l1 l2 ha (by omega) (by omega) hs.2.1 hs.2.2
  · rw [if_neg (by simpa using hs)]; exact ht
end Go.Proofs.YtbgfkepnlpgagaaDoor.P
