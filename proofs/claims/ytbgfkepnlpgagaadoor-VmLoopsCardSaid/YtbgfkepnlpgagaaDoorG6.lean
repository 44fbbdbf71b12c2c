/- The plain law of VmLoops. -/
import Derived.Test.YtbgfkepnlpgagaaDoorG2
import Derived.Test.YtbgfkepnlpgagaaDoorL5
namespace Go.Proofs.YtbgfkepnlpgagaaDoor.P
open Go.RowKit Go.Proofs.YtbgfkepnlpgagaaDoorW.PrintWords
set_option linter.unusedVariables false
abbrev loopIns : List S42 := [(⟨1, 9, 0⟩ : S42), (⟨14, 0, 0⟩ : S42), (⟨17, 0, 0⟩ : S42), (⟨15, 5, 0⟩ : S42)]
abbrev lpSt (v : Int) (n : List Int) (t : Int) : St := { pc := 0, vars := [v], stack := [], br := 0, pts := [], notes := n, fin := 0, steps := t, done := false }
theorem lp0 : insF loopIns 0 = (1, 9, 0) := rfl
theorem lp1 : insF loopIns 1 = (14, 0, 0) := rfl
theorem lp2 : insF loopIns 2 = (17, 0, 0) := rfl
theorem lp3 : insF loopIns 3 = (15, 5, 0) := rfl
theorem lp_push (v : Int) (n : List Int) (t : Int) (h0 : 0 ≤ t) (h3 : t < 3000) : stepP (insF loopIns) 4 [] 0 (lpSt v n t) = .ok { lpSt v n (t + 1) with pc := 1, stack := [9] } := by
  have e : wrap64 (t + 1) = t + 1 := by unfold wrap64; omega
  have e1 : wrap64 (0 + 1) = 1 := by unfold wrap64; omega
  unfold stepP
  rw [if_pos (show (lpSt v n t).steps < 3000 from h3), if_pos (show 0 ≤ (lpSt v n t).pc ∧ (lpSt v n t).pc < ((4 : Nat) : Int) by show (0 : Int) ≤ 0 ∧ (0 : Int) < 4; decide)]
  show (if 1 ≤ (insF loopIns 0).1 ∧ (insF loopIns 0).1 < 18 then execP [] 0 { lpSt v n t with pc := wrap64 (0 + 1), steps := wrap64 (t + 1) } (insF loopIns 0).1 (insF loopIns 0).2.1 (insF loopIns 0).2.2 else .error 21) = _
  rw [lp0, if_pos (by decide), e, e1]
  rfl
theorem lp_note (v : Int) (n : List Int) (t : Int) (h0 : 0 ≤ t) (h3 : t < 3000) : stepP (insF loopIns) 4 [] 0 { lpSt v n t with pc := 1, stack := [9] } = .ok { lpSt v (n ++ [9]) (t + 1) with pc := 2 } := by
  have e : wrap64 (t + 1) = t + 1 := by unfold wrap64; omega
  have e1 : wrap64 (1 + 1) = 2 := by unfold wrap64; omega
  unfold stepP
  rw [if_pos (show (lpSt v n t).steps < 3000 from h3), if_pos (show (0 : Int) ≤ 1 ∧ (1 : Int) < ((4 : Nat) : Int) by decide)]
  show (if 1 ≤ (insF loopIns 1).1 ∧ (insF loopIns 1).1 < 18 then execP [] 0 { lpSt v n t with pc := wrap64 (1 + 1), stack := [9], steps := wrap64 (t + 1) } (insF loopIns 1).1 (insF loopIns 1).2.1 (insF loopIns 1).2.2 else .error 21) = _
  rw [lp1, if_pos (by decide), e, e1]
  rfl
theorem lp_loop (v : Int) (n : List Int) (t : Int) (h0 : 0 ≤ t) (h3 : t < 3000) (hv : 0 ≤ v ∧ v ≤ 300) : stepP (insF loopIns) 4 [] 0 { lpSt v n t with pc := 2 } = .ok (if v ≤ 1 then { lpSt 0 n (t + 1) with pc := 3 } else lpSt (v - 1) n (t + 1)) := by
  have e : wrap64 (t + 1) = t + 1 := by unfold wrap64; omega
  have e1 : wrap64 (2 + 1) = 3 := by unfold wrap64; omega
  have e2 : wrap64 (v - 1) = v - 1 := by unfold wrap64; omega
  unfold stepP
  rw [if_pos (show (lpSt v n t).steps < 3000 from h3), if_pos (show (0 : Int) ≤ 2 ∧ (2 : Int) < ((4 : Nat) : Int) by decide)]
  show (if 1 ≤ (insF loopIns 2).1 ∧ (insF loopIns 2).1 < 18 then execP [] 0 { lpSt v n t with pc := wrap64 (2 + 1), steps := wrap64 (t + 1) } (insF loopIns 2).1 (insF loopIns 2).2.1 (insF loopIns 2).2.2 else .error 21) = _
  rw [lp2, if_pos (by decide), e, e1]
  show loopP { lpSt v n (t + 1) with pc := 3 } 0 0 = _
  unfold loopP
  rw [if_pos (show (0 : Int) ≤ 0 ∧ (0 : Int) < (([v] : List Int).length : Int) by simp)]
  show (if wrap64 (v - 1) ≤ 0 then Except.ok ({ lpSt v n (t + 1) with pc := 3, vars := [0] } : St) else .ok { lpSt v n (t + 1) with pc := 0, vars := [wrap64 (v - 1)] }) = _
  rw [e2]
  by_cases h : v ≤ 1
  · rw [if_pos (by omega), if_pos h]
  · rw [if_neg (by omega), if_neg h]
theorem lp_halt (v : Int) (n : List Int) (t : Int) (h0 : 0 ≤ t) (h3 : t < 3000) : stepP (insF loopIns) 4 [] 0 { lpSt v n t with pc := 3 } = .ok { lpSt v n (t + 1) with pc := 4, fin := 5, done := true } := by
  have e : wrap64 (t + 1) = t + 1 := by unfold wrap64; omega
  have e1 : wrap64 (3 + 1) = 4 := by unfold wrap64; omega
  unfold stepP
  rw [if_pos (show (lpSt v n t).steps < 3000 from h3), if_pos (show (0 : Int) ≤ 3 ∧ (3 : Int) < ((4 : Nat) : Int) by decide)]
  show (if 1 ≤ (insF loopIns 3).1 ∧ (insF loopIns 3).1 < 18 then execP [] 0 { lpSt v n t with pc := wrap64 (3 + 1), steps := wrap64 (t + 1) } (insF loopIns 3).1 (insF loopIns 3).2.1 (insF loopIns 3).2.2 else .error 21) = _
  rw [lp3, if_pos (by decide), e, e1]
  rfl
theorem runP_go {f : Nat → Int × Int × Int} {L : Nat} {gl : List Int} {P : Int} {s s2 : St} (n : Nat) (hd : s.done = false) (h : stepP f L gl P s = .ok s2) : runP f L gl P (n + 1) s = runP f L gl P n s2 := by
  conv => lhs; unfold runP
  rw [if_neg (by rw [hd]; decide), h]
theorem runP_end {f : Nat → Int × Int × Int} {L : Nat} {gl : List Int} {P : Int} {s : St} (n : Nat) (hd : s.done = true) : runP f L gl P (n + 1) s = .ok s := by
  unfold runP
  rw [if_pos hd]
/-- From v on the loop runs max(v, 1) times. -/
theorem lp_run : ∀ (v : Nat) (k : Nat) (n : List Int) (t : Int), 0 ≤ t → 1 ≤ v → v ≤ 300 → t + 3 * v + 1 ≤ 1000 → 3 * v + 2 ≤ k →
    ∃ s', runP (insF loopIns) 4 [] 0 k (lpSt v n t) = .ok s' ∧ s'.pts = [] ∧ s'.notes.length = n.length + v ∧ s'.fin = 5 ∧ s'.steps = t + 3 * v + 1 := by
  intro v
  induction v with
  | zero => intro k n t h0 h1; omega
  | succ v ih =>
    intro k n t h0 h1 h3 ht hk
    obtain ⟨k, rfl⟩ : ∃ m, k = m + 1 + 1 + 1 + 1 + 1 := ⟨k - 5, by omega⟩
    rw [runP_go _ rfl (lp_push _ n t h0 (by omega)), runP_go _ rfl (lp_note _ n (t + 1) (by omega) (by omega)), runP_go _ rfl (lp_loop _ (n ++ [9]) (t + 1 + 1) (by omega) (by omega) (by omega))]
    by_cases hv : v = 0
    · subst hv
      rw [if_pos (by decide), runP_go _ rfl (lp_halt 0 (n ++ [9]) (t + 1 + 1 + 1) (by omega) (by omega)), runP_end _ rfl]
      exact ⟨_, rfl, rfl, by simp, rfl, by show t + 1 + 1 + 1 + 1 = _; omega⟩
    · rw [if_neg (by omega)]
      have e : ((v + 1 : Nat) : Int) - 1 = (v : Int) := by omega
      rw [e]
      obtain ⟨s', h1, h2, h3, h4, h5⟩ := ih (k + 1 + 1) (n ++ [9]) (t + 1 + 1 + 1) (by omega) (by omega) (by omega) (by omega) (by omega)
      exact ⟨s', h1, h2, by rw [h3]; simp; omega, h4, by rw [h5]; omega⟩
theorem lp_run0 (n : List Int) (k : Nat) : ∃ s', runP (insF loopIns) 4 [] 0 (k + 5) (lpSt 0 n 0) = .ok s' ∧ s'.pts = [] ∧ s'.notes.length = n.length + 1 ∧ s'.fin = 5 ∧ s'.steps = 4 := by
  rw [show k + 5 = k + 1 + 1 + 1 + 1 + 1 from rfl, runP_go _ rfl (lp_push _ n 0 (by omega) (by omega)), runP_go _ rfl (lp_note _ n (0 + 1) (by omega) (by omega)), runP_go _ rfl (lp_loop _ (n ++ [9]) (0 + 1 + 1) (by omega) (by omega) (by omega))]
  rw [if_pos (by decide), runP_go _ rfl (lp_halt 0 (n ++ [9]) (0 + 1 + 1 + 1) (by omega) (by omega)), runP_end _ rfl]
  exact ⟨_, rfl, rfl, by simp, rfl, rfl⟩
theorem lo_vm (v : Nat) (hv : v ≤ 300) : ∃ (p n : List Int) (s : Int), vm_Run.f loopIns 1 0 [(v : Int)] [] = some (p, n, 5, s, 0) ∧ (n.length : Int) = mx v 1 ∧ s = 3 * mx v 1 + 1 := by
  have hvd : validP 1 0 [(v : Int)] = true := by
    unfold validP
    have h : oddP (v : Int) = false := by unfold oddP; simp; omega
    simp [h]
  have hi : initS 1 0 [(v : Int)] = lpSt v [] 0 := rfl
  unfold vm_Run.f
  rw [if_pos (by simp), if_pos hvd, hi]
  by_cases h0 : v = 0
  · subst h0
    obtain ⟨s', h1, h2, h3, h4, h5⟩ := lp_run0 [] 2997
    have h1' : runP (insF loopIns) loopIns.length [] 0 3002 (lpSt ((0 : Nat) : Int) [] 0) = .ok s' := h1
    rw [h1']
    refine ⟨s'.pts, s'.notes, s'.steps, ?_, ?_, ?_⟩
    · show some (s'.pts, s'.notes, s'.fin, s'.steps, (0 : Int)) = _
      rw [h4]
    · rw [h3]; decide
    · rw [h5]; decide
  · obtain ⟨s', h1, h2, h3, h4, h5⟩ := lp_run v 3002 [] 0 (by omega) (by omega) hv (by omega) (by omega)
    have h1' : runP (insF loopIns) loopIns.length [] 0 3002 (lpSt (v : Int) [] 0) = .ok s' := h1
    have hm : mx (v : Int) 1 = v := by unfold mx; split <;> omega
    rw [h1', hm]
    refine ⟨s'.pts, s'.notes, s'.steps, ?_, ?_, ?_⟩
    · show some (s'.pts, s'.notes, s'.fin, s'.steps, (0 : Int)) = _
      rw [h4]
    · rw [h3]; simp
    · rw [h5]; omega
theorem lo_pure (a : Int) (ha : 0 ≤ a ∧ a ≤ 65535) : bootchainlaw17_VmLoops.f a = some true := by
  have e0 : wrap64 a = a := by unfold wrap64; omega
  obtain ⟨v, hv⟩ := Int.eq_ofNat_of_zero_le (show 0 ≤ Int.tmod a 301 from Int.tmod_nonneg 301 ha.1)
  have hv3 : v ≤ 300 := by have := Int.tmod_lt_of_pos a (show (0 : Int) < 301 by decide); omega
  obtain ⟨p, n, s, h, hn, hs⟩ := lo_vm v hv3
  have hm : 1 ≤ mx (v : Int) 1 ∧ mx (v : Int) 1 ≤ 300 := by unfold mx; split <;> omega
  have e1 : wrap64 (3 * mx (v : Int) 1) = 3 * mx (v : Int) 1 := by unfold wrap64; omega
  have e2 : wrap64 (3 * mx (v : Int) 1 + 1) = 3 * mx (v : Int) 1 + 1 := by unfold wrap64; omega
  unfold bootchainlaw17_VmLoops.f bootchainlaw17_sanity.f
  rw [e0, hv]
  rw [show ((vm_Run.f (([(⟨1, 9, 0⟩ : S42), (⟨14, 0, 0⟩ : S42), (⟨17, 0, 0⟩ : S42), (⟨15, 5, 0⟩ : S42)] : List (S42))) 1 0 (([((v : Nat) : Int)] : List Int)) ([] : List Int))) = some (p, n, 5, s, 0) from h]
  simp only [Option.bind_some, if_true]
  rw [if_pos hn, e1, e2, hs]
  simp
end Go.Proofs.YtbgfkepnlpgagaaDoor.P
