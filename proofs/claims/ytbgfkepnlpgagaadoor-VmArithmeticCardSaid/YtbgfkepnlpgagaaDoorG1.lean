/- What every step of the machine keeps: no program in sight. -/
import Derived.Test.YtbgfkepnlpgagaaDoorV14
namespace Go.Proofs.YtbgfkepnlpgagaaDoor.P
open Go.RowKit Go.Proofs.YtbgfkepnlpgagaaDoorW.PrintWords Go.Proofs.YtbgfkepnlpgagaaDoorW.PrintLast Go.Proofs.YtbgfkepnlpgagaaDoorW.PrintMore
attribute [local go_sem] max2_int min2_int max_two min_two max_three min_three max_four min_four
set_option linter.unusedVariables false
set_option linter.unusedSimpArgs false

def Rg (x : Int) : Prop := 0 ≤ x ∧ x ≤ 65535
structure Gd (P : Int) (s : St) : Prop where
  t0 : 0 ≤ s.steps
  t3 : s.steps ≤ 3000
  s4 : s.stack.length ≤ 400
  v4 : s.vars.length ≤ 400
  nt : (s.notes.length : Int) ≤ s.steps
  pP : (s.pts.length : Int) = P
  b0 : 0 ≤ s.br
  b1 : s.br ≤ s.steps
  vr : ∀ x ∈ s.vars, Rg x
  sr : ∀ x ∈ s.stack, Rg x
  nr : ∀ x ∈ s.notes, Rg x
  pr : ∀ x ∈ s.pts, 0 ≤ x ∧ x ≤ 3
  dn : s.done = true → (s.notes.length : Int) < s.steps
theorem rg_mod (a : Int) : Rg (a % 65536) := by unfold Rg; omega
theorem rg_b2i (b : Bool) : Rg (b2i b) := by cases b <;> (unfold Rg b2i; decide)
theorem rg_bin (op a b : Int) : Rg (binV op a b) := by
  unfold binV
  repeat' split
  all_goals first | exact rg_b2i _ | exact rg_mod _
theorem rg_zero : Rg 0 := by unfold Rg; omega
theorem rg_getD {l : List Int} (h : ∀ x ∈ l, Rg x) (j : Nat) : Rg (l.getD j 0) := by
  rw [List.getD_eq_getElem?_getD]
  rcases Nat.lt_or_ge j l.length with hj | hj
  · rw [List.getElem?_eq_getElem hj]; exact h _ (List.getElem_mem hj)
  · rw [List.getElem?_eq_none hj]; exact rg_zero
theorem rg_last {l : List Int} (h : ∀ x ∈ l, Rg x) : Rg (l.getLastD 0) := by
  rcases stack_split l with rfl | ⟨ys, x, rfl⟩
  · exact rg_zero
  · have e : (ys ++ [x]).getLastD 0 = x := by simp
    rw [e]; exact h x (by simp)
theorem rg_drop {l : List Int} (h : ∀ x ∈ l, Rg x) : ∀ x ∈ l.dropLast, Rg x := fun x hx => h x ((List.dropLast_sublist l).subset hx)
theorem mem_set {p : Int → Prop} {l : List Int} (h : ∀ x ∈ l, p x) (j : Nat) (v : Int) (hv : p v) : ∀ x ∈ l.set j v, p x := fun x hx => by
  rcases List.mem_or_eq_of_mem_set hx with h1 | rfl
  · exact h x h1
  · exact hv
theorem mem_snoc {p : Int → Prop} {l : List Int} (h : ∀ x ∈ l, p x) (v : Int) (hv : p v) : ∀ x ∈ l ++ [v], p x := fun x hx => by
  rcases List.mem_append.1 hx with h1 | h1
  · exact h x h1
  · rw [List.mem_singleton.1 h1]; exact hv
theorem orV_3 (x k : Int) (h0 : 0 ≤ x) (h3 : x ≤ 3) (hk : k = 1 ∨ k = 2) : 0 ≤ orV x k ∧ orV x k ≤ 3 := by
  have hx : x = 0 ∨ x = 1 ∨ x = 2 ∨ x = 3 := by omega
  rcases hx with rfl | rfl | rfl | rfl <;> rcases hk with rfl | rfl <;> decide +kernel
theorem pt_getD {l : List Int} (h : ∀ x ∈ l, 0 ≤ x ∧ x ≤ 3) (j : Nat) : 0 ≤ l.getD j 0 ∧ l.getD j 0 ≤ 3 := by
  rw [List.getD_eq_getElem?_getD]
  rcases Nat.lt_or_ge j l.length with hj | hj
  · rw [List.getElem?_eq_getElem hj]; exact h _ (List.getElem_mem hj)
  · rw [List.getElem?_eq_none hj]; exact ⟨by decide, by decide⟩
/-- The state in which an instruction is carried out: the counter has been raised. -/
structure Gp (P : Int) (s : St) : Prop where
  t0 : 1 ≤ s.steps
  t3 : s.steps ≤ 3000
  s4 : s.stack.length ≤ 400
  v4 : s.vars.length ≤ 400
  nt : (s.notes.length : Int) < s.steps
  pP : (s.pts.length : Int) = P
  b0 : 0 ≤ s.br
  b1 : s.br < s.steps
  vr : ∀ x ∈ s.vars, Rg x
  sr : ∀ x ∈ s.stack, Rg x
  nr : ∀ x ∈ s.notes, Rg x
  pr : ∀ x ∈ s.pts, 0 ≤ x ∧ x ≤ 3
  d0 : s.done = false
theorem Gp.gd {P : Int} {s : St} (h : Gp P s) : Gd P s := ⟨by have := h.t0; omega, h.t3, h.s4, h.v4, by have := h.nt; omega, h.pP, h.b0, by have := h.b1; omega, h.vr, h.sr, h.nr, h.pr, fun _ => h.nt⟩
theorem push_gd {P : Int} {s s' : St} {x : Int} (h : Gp P s) (hx : Rg x) (he : pushP s x = .ok s') : Gd P s' := by
  unfold pushP at he
  split at he
  · rename_i hl
    injection he with he; subst he
    have g := h.gd
    exact ⟨g.t0, g.t3, by show (s.stack ++ [x]).length ≤ 400; simp; omega, g.v4, g.nt, g.pP, g.b0, g.b1, g.vr, mem_snoc g.sr x hx, g.nr, g.pr, g.dn⟩
  · cases he
theorem Gp.stack {P : Int} {s : St} (h : Gp P s) (l : List Int) (hl : l.length ≤ 400) (hr : ∀ x ∈ l, Rg x) : Gp P { s with stack := l } := ⟨h.t0, h.t3, hl, h.v4, h.nt, h.pP, h.b0, h.b1, h.vr, hr, h.nr, h.pr, h.d0⟩
theorem exec_gd {gl : List Int} {P : Int} {s s' : St} {op a b : Int} (h : Gp P s) (he : execP gl P s op a b = .ok s') : Gd P s' := by
  have g := h.gd
  have hd : s.stack.dropLast.length ≤ 400 := by have := h.s4; simp; omega
  unfold execP at he
  repeat' split at he
  · exact push_gd h (rg_mod a) he
  · unfold loadP at he; split at he
    · exact push_gd h (rg_getD h.vr _) he
    · cases he
  · unfold storeP at he; split at he
    · cases he
    · split at he
      · injection he with he; subst he
        exact ⟨g.t0, g.t3, hd, by show (s.vars.set _ _).length ≤ 400; rw [List.length_set]; exact h.v4, g.nt, g.pP, g.b0, g.b1, mem_set g.vr _ _ (rg_last g.sr), rg_drop g.sr, g.nr, g.pr, g.dn⟩
      · cases he
  · unfold notP at he; split at he
    · cases he
    · exact push_gd (h.stack _ hd (rg_drop g.sr)) (rg_b2i _) he
  · unfold branchP at he; split at he
    · cases he
    · split at he
      · injection he with he; subst he
        have ew : wrap64 (s.br + 1) = s.br + 1 := by have h1 := h.b0; have h2 := h.b1; have h3 := h.t3; unfold wrap64; omega
        have hp := pt_getD g.pr b.toNat
        have b1 := h.b1
        have b0 := h.b0
        split
        · exact ⟨g.t0, g.t3, hd, g.v4, g.nt, by show ((s.pts.set _ _).length : Int) = P; rw [List.length_set]; exact g.pP, by show 0 ≤ wrap64 (s.br + 1); rw [ew]; omega, by show wrap64 (s.br + 1) ≤ s.steps; rw [ew]; omega, g.vr, rg_drop g.sr, g.nr, mem_set g.pr _ _ (orV_3 _ _ hp.1 hp.2 (.inl rfl)), g.dn⟩
        · exact ⟨g.t0, g.t3, hd, g.v4, g.nt, by show ((s.pts.set _ _).length : Int) = P; rw [List.length_set]; exact g.pP, by show 0 ≤ wrap64 (s.br + 1); rw [ew]; omega, by show wrap64 (s.br + 1) ≤ s.steps; rw [ew]; omega, g.vr, rg_drop g.sr, g.nr, mem_set g.pr _ _ (orV_3 _ _ hp.1 hp.2 (.inr rfl)), g.dn⟩
      · cases he
  · injection he with he; subst he; exact ⟨g.t0, g.t3, g.s4, g.v4, g.nt, g.pP, g.b0, g.b1, g.vr, g.sr, g.nr, g.pr, g.dn⟩
  · unfold noteP at he; split at he
    · cases he
    · injection he with he; subst he
      have e : ((s.notes ++ [s.stack.getLastD 0]).length : Int) = (s.notes.length : Int) + 1 := by simp
      have hn := h.nt
      refine ⟨g.t0, g.t3, hd, g.v4, by show ((s.notes ++ [s.stack.getLastD 0]).length : Int) ≤ s.steps; rw [e]; omega, g.pP, g.b0, g.b1, g.vr, rg_drop g.sr, mem_snoc g.nr _ (rg_last g.sr), g.pr, fun hdn => ?_⟩
      have : s.done = true := hdn
      rw [h.d0] at this
      cases this
  · injection he with he; subst he; unfold endP; split <;> exact ⟨g.t0, g.t3, g.s4, g.v4, g.nt, g.pP, g.b0, g.b1, g.vr, g.sr, g.nr, g.pr, fun _ => h.nt⟩
  · unfold loopP at he; split at he
    · have hr := rg_getD h.vr a.toNat
      split at he
      · injection he with he; subst he
        exact ⟨g.t0, g.t3, g.s4, by show (s.vars.set _ _).length ≤ 400; rw [List.length_set]; exact h.v4, g.nt, g.pP, g.b0, g.b1, mem_set g.vr _ _ rg_zero, g.sr, g.nr, g.pr, g.dn⟩
      · rename_i hv
        injection he with he; subst he
        have hw : Rg (wrap64 (s.vars.getD a.toNat 0 - 1)) := by unfold Rg at hr ⊢; unfold wrap64 at hv ⊢; omega
        exact ⟨g.t0, g.t3, g.s4, by show (s.vars.set _ _).length ≤ 400; rw [List.length_set]; exact h.v4, g.nt, g.pP, g.b0, g.b1, mem_set g.vr _ _ hw, g.sr, g.nr, g.pr, g.dn⟩
    · cases he
  · unfold binaryP at he; split at he
    · cases he
    · exact push_gd (h.stack _ (by have := h.s4; simp; omega) (rg_drop (rg_drop g.sr))) (rg_bin _ _ _) he
theorem step_gd {f : Nat → Int × Int × Int} {L : Nat} {gl : List Int} {P : Int} {s s' : St} (h : Gd P s) (hd : s.done = false) (he : stepP f L gl P s = .ok s') : Gd P s' ∧ s'.steps = s.steps + 1 := by
  have h1 := stepP_ok he h.t0 h.s4
  refine ⟨?_, h1.1⟩
  have h0 := h.t0
  have hn := h.nt
  have hb := h.b1
  have e1 : wrap64 (s.steps + 1) = s.steps + 1 := by unfold wrap64; omega
  unfold stepP at he
  rw [if_pos h1.2.2.2.2] at he
  split at he
  · split at he
    · rw [e1] at he
      exact exec_gd (s := { s with pc := wrap64 (s.pc + 1), steps := s.steps + 1 }) ⟨by show 1 ≤ s.steps + 1; omega, by show s.steps + 1 ≤ 3000; omega, h.s4, h.v4, by show (s.notes.length : Int) < s.steps + 1; omega, h.pP, h.b0, by show s.br < s.steps + 1; omega, h.vr, h.sr, h.nr, h.pr, hd⟩ he
    · cases he
  · cases he
theorem init_gd (V P : Nat) (l : List Int) (hV : V ≤ 400) (hlV : l.length ≤ V) (hl : l.any oddP = false) : Gd P (initS V P l) := by
  refine ⟨Int.le_refl _, (by show (0 : Int) ≤ 3000; decide), Nat.zero_le _, ?_, Int.le_refl _, ?_, Int.le_refl _, Int.le_refl _, ?_, (fun x hx => by cases hx), (fun x hx => by cases hx), ?_, (fun h => by cases h)⟩
  · show (l ++ List.replicate ((V : Int).toNat - l.length) (0 : Int)).length ≤ 400
    rw [List.length_append, List.length_replicate, Int.toNat_natCast]; omega
  · show ((List.replicate ((P : Int).toNat) (0 : Int)).length : Int) = P
    rw [List.length_replicate, Int.toNat_natCast]
  · intro x hx
    rcases List.mem_append.1 hx with h1 | h1
    · have h2 := List.any_eq_false.1 hl x h1
      unfold oddP at h2
      simp only [Bool.or_eq_true, decide_eq_true_eq, not_or] at h2
      unfold Rg
      omega
    · rw [(List.mem_replicate.1 h1).2]; exact rg_zero
  · intro x hx
    rw [(List.mem_replicate.1 hx).2]; decide
end Go.Proofs.YtbgfkepnlpgagaaDoor.P
