/- The reference's step is the machine's. -/
import Derived.Test.YtbgfkepnlpgagaaDoorV19
import Derived.Test.YtbgfkepnlpgagaaDoorV20
import Derived.Test.YtbgfkepnlpgagaaDoorV21
import Derived.Test.YtbgfkepnlpgagaaDoorV22
import Derived.Test.YtbgfkepnlpgagaaDoorV23
import Derived.Test.YtbgfkepnlpgagaaDoorV24
import Derived.Test.YtbgfkepnlpgagaaDoorV25
namespace Go.Proofs.YtbgfkepnlpgagaaDoor.P
open Go.RowKit Go.Proofs.YtbgfkepnlpgagaaDoorW.PrintWords Go.Proofs.YtbgfkepnlpgagaaDoorW.PrintLast Go.Proofs.YtbgfkepnlpgagaaDoorW.PrintMore
attribute [local go_sem] max2_int min2_int max_two min_two max_three min_three max_four min_four
set_option linter.unusedVariables false
set_option linter.unusedSimpArgs false
/-- What the reference's step may lean on. -/
structure Inv (ins : List S42) (P : Int) (s : St) (gl : List Int) : Prop where
  st : 0 ≤ s.steps
  s4 : s.stack.length ≤ 400
  v4 : s.vars.length ≤ 400
  nt : s.notes.length ≤ 4000
  p4 : s.pts.length ≤ 400
  pP : (s.pts.length : Int) = P
  b0 : 0 ≤ s.br
  b1 : s.br ≤ 3000
  nB : ins.length ≤ 9000000000000000000
  gl2 : gl.length ≤ 4611686018427387904
  vr : ∀ x ∈ s.vars, 0 ≤ x ∧ x ≤ 65535
  dn : s.done = false
theorem st_eta (s : St) (hdn : s.done = false) (p t : Int) (l : List Int) : ({ s with pc := p, steps := t, stack := l, done := false } : St) = { s with pc := p, steps := t, stack := l } := by cases s; simp only at hdn; subst hdn; rfl
theorem rd_getD (l : List Int) (j : Nat) : rd l ((j : Nat) : Int) = l.getD j 0 := by unfold rd; rw [Int.toNat_natCast]
theorem rd_mem {l : List Int} {P : Int → Prop} (h : ∀ x ∈ l, P x) (j : Nat) (hj : j < l.length) : P (rd l ((j : Nat) : Int)) := by
  rw [rd_getD, List.getD_eq_getElem?_getD, List.getElem?_eq_getElem hj]
  exact h _ (List.getElem_mem hj)
theorem any_1 {w : World} (cA : Option Addr) (cC : Nat) (ins : List S42) (V P : Int) (s : St) (vA sA pA nA : Option Addr) (vC sC pC nC : Nat) (gA : Option Addr) (gC : Nat) (gl : List Int) (hr0 : Kd.C k42 w cA ins.length ins) (hv : RD w (.slice vA s.vars.length vC) s.vars) (hs : RD w (.slice sA s.stack.length sC) s.stack) (hp : RD w (.slice pA s.pts.length pC) s.pts) (hn : RD w (.slice nA s.notes.length nC) s.notes) (hG : Kd.C (Kd.int .i64) w gA gl.length gl) (hi : Inv ins P s gl) (h3 : s.steps < 3000) (n : Nat) (hnL : n < ins.length) (a b : Int) (hop : insF ins n = (1, a, b)) :
    Calls Tryd.prog 19 #[.agg #[.slice cA ins.length cC, .int .i64 V, .int .i64 P], .agg (stC (n : Nat) (.slice vA s.vars.length vC) (.slice sA s.stack.length sC) (.slice pA s.pts.length pC) (.slice nA s.notes.length nC) s.fin s.steps s.br false 0), .slice gA gl.length gC] w (RLeft w (execP gl P { s with pc := (n : Int) + 1, steps := s.steps + 1 } 1 a b)) := by
  have hnB : n ≤ 9000000000000000000 := by have := hi.nB; omega
  have hdn := hi.dn
  refine rstep_ok1 cA cC ins V P s vA sA pA nA vC sC pC nC gA gC gl s.stack hr0 hv hs hp hn h3 hi.st hi.s4 n hnL hnB a b hop _ ?_
  rw [st_eta s hdn]; rfl
theorem any_2 {w : World} (cA : Option Addr) (cC : Nat) (ins : List S42) (V P : Int) (s : St) (vA sA pA nA : Option Addr) (vC sC pC nC : Nat) (gA : Option Addr) (gC : Nat) (gl : List Int) (hr0 : Kd.C k42 w cA ins.length ins) (hv : RD w (.slice vA s.vars.length vC) s.vars) (hs : RD w (.slice sA s.stack.length sC) s.stack) (hp : RD w (.slice pA s.pts.length pC) s.pts) (hn : RD w (.slice nA s.notes.length nC) s.notes) (hG : Kd.C (Kd.int .i64) w gA gl.length gl) (hi : Inv ins P s gl) (h3 : s.steps < 3000) (n : Nat) (hnL : n < ins.length) (a b : Int) (hop : insF ins n = (2, a, b)) :
    Calls Tryd.prog 19 #[.agg #[.slice cA ins.length cC, .int .i64 V, .int .i64 P], .agg (stC (n : Nat) (.slice vA s.vars.length vC) (.slice sA s.stack.length sC) (.slice pA s.pts.length pC) (.slice nA s.notes.length nC) s.fin s.steps s.br false 0), .slice gA gl.length gC] w (RLeft w (execP gl P { s with pc := (n : Int) + 1, steps := s.steps + 1 } 2 a b)) := by
  have hnB : n ≤ 9000000000000000000 := by have := hi.nB; omega
  have hdn := hi.dn
  by_cases ha : 0 ≤ a ∧ a < (s.vars.length : Int)
  · obtain ⟨j, rfl⟩ := Int.eq_ofNat_of_zero_le ha.1
    have hj : j < s.vars.length := by omega
    have e : execP gl P { s with pc := (n : Int) + 1, steps := s.steps + 1 } 2 (j : Int) b = pushP { s with pc := (n : Int) + 1, steps := s.steps + 1 } (rd s.vars (j : Int)) := by
      show loadP _ _ = _
      unfold loadP
      rw [if_pos ha, rd_getD]
      rfl
    rw [e]
    refine rstep_ok2 cA cC ins V P s vA sA pA nA vC sC pC nC gA gC gl s.stack hr0 hv hs hp hn h3 hi.st hi.s4 n hnL hnB j hj b hop (rd_mem hi.vr j hj).1 _ ?_
    rw [st_eta s hdn]
  · have e : execP gl P { s with pc := (n : Int) + 1, steps := s.steps + 1 } 2 a b = .error 21 := by show loadP _ _ = _; unfold loadP; rw [if_neg ha]
    rw [e]
    by_cases h0 : a < 0
    · exact rstep_bad_var2lo cA cC ins V P s vA sA pA nA vC sC pC nC gA gC gl hr0 hv hs hp hn h3 n hnL 2 a b hop 0 pops_2 rfl (Nat.zero_le _) h0
    · exact rstep_bad_var2hi cA cC ins V P s vA sA pA nA vC sC pC nC gA gC gl hr0 hv hs hp hn h3 n hnL 2 a b hop 0 pops_2 rfl (Nat.zero_le _) (by omega)
theorem any_13 {w : World} (cA : Option Addr) (cC : Nat) (ins : List S42) (V P : Int) (s : St) (vA sA pA nA : Option Addr) (vC sC pC nC : Nat) (gA : Option Addr) (gC : Nat) (gl : List Int) (hr0 : Kd.C k42 w cA ins.length ins) (hv : RD w (.slice vA s.vars.length vC) s.vars) (hs : RD w (.slice sA s.stack.length sC) s.stack) (hp : RD w (.slice pA s.pts.length pC) s.pts) (hn : RD w (.slice nA s.notes.length nC) s.notes) (hG : Kd.C (Kd.int .i64) w gA gl.length gl) (hi : Inv ins P s gl) (h3 : s.steps < 3000) (n : Nat) (hnL : n < ins.length) (a b : Int) (hop : insF ins n = (13, a, b)) :
    Calls Tryd.prog 19 #[.agg #[.slice cA ins.length cC, .int .i64 V, .int .i64 P], .agg (stC (n : Nat) (.slice vA s.vars.length vC) (.slice sA s.stack.length sC) (.slice pA s.pts.length pC) (.slice nA s.notes.length nC) s.fin s.steps s.br false 0), .slice gA gl.length gC] w (RLeft w (execP gl P { s with pc := (n : Int) + 1, steps := s.steps + 1 } 13 a b)) := by
  have hnB : n ≤ 9000000000000000000 := by have := hi.nB; omega
  have hdn := hi.dn
  have e : execP gl P { s with pc := (n : Int) + 1, steps := s.steps + 1 } 13 a b = .ok { s with pc := a, steps := s.steps + 1, stack := s.stack, done := false } := by cases s; simp only at hdn; subst hdn; rfl
  rw [e]
  exact rstep_ok13 cA cC ins V P s vA sA pA nA vC sC pC nC gA gC gl s.stack hr0 hv hs hp hn h3 hi.st hi.s4 n hnL hnB a b hop
theorem any_15 {w : World} (cA : Option Addr) (cC : Nat) (ins : List S42) (V P : Int) (s : St) (vA sA pA nA : Option Addr) (vC sC pC nC : Nat) (gA : Option Addr) (gC : Nat) (gl : List Int) (hr0 : Kd.C k42 w cA ins.length ins) (hv : RD w (.slice vA s.vars.length vC) s.vars) (hs : RD w (.slice sA s.stack.length sC) s.stack) (hp : RD w (.slice pA s.pts.length pC) s.pts) (hn : RD w (.slice nA s.notes.length nC) s.notes) (hG : Kd.C (Kd.int .i64) w gA gl.length gl) (hi : Inv ins P s gl) (h3 : s.steps < 3000) (n : Nat) (hnL : n < ins.length) (a b : Int) (hop : insF ins n = (15, a, b)) :
    Calls Tryd.prog 19 #[.agg #[.slice cA ins.length cC, .int .i64 V, .int .i64 P], .agg (stC (n : Nat) (.slice vA s.vars.length vC) (.slice sA s.stack.length sC) (.slice pA s.pts.length pC) (.slice nA s.notes.length nC) s.fin s.steps s.br false 0), .slice gA gl.length gC] w (RLeft w (execP gl P { s with pc := (n : Int) + 1, steps := s.steps + 1 } 15 a b)) := by
  have hnB : n ≤ 9000000000000000000 := by have := hi.nB; omega
  have hdn := hi.dn
  have e : execP gl P { s with pc := (n : Int) + 1, steps := s.steps + 1 } 15 a b = .ok { s with pc := (n : Int) + 1, steps := s.steps + 1, stack := s.stack, fin := a, done := true } := rfl
  rw [e]
  exact rstep_ok15 cA cC ins V P s vA sA pA nA vC sC pC nC gA gC gl s.stack hr0 hv hs hp hn h3 hi.st hi.s4 n hnL hnB a b hop
theorem any_16 {w : World} (cA : Option Addr) (cC : Nat) (ins : List S42) (V P : Int) (s : St) (vA sA pA nA : Option Addr) (vC sC pC nC : Nat) (gA : Option Addr) (gC : Nat) (gl : List Int) (hr0 : Kd.C k42 w cA ins.length ins) (hv : RD w (.slice vA s.vars.length vC) s.vars) (hs : RD w (.slice sA s.stack.length sC) s.stack) (hp : RD w (.slice pA s.pts.length pC) s.pts) (hn : RD w (.slice nA s.notes.length nC) s.notes) (hG : Kd.C (Kd.int .i64) w gA gl.length gl) (hi : Inv ins P s gl) (h3 : s.steps < 3000) (n : Nat) (hnL : n < ins.length) (a b : Int) (hop : insF ins n = (16, a, b)) :
    Calls Tryd.prog 19 #[.agg #[.slice cA ins.length cC, .int .i64 V, .int .i64 P], .agg (stC (n : Nat) (.slice vA s.vars.length vC) (.slice sA s.stack.length sC) (.slice pA s.pts.length pC) (.slice nA s.notes.length nC) s.fin s.steps s.br false 0), .slice gA gl.length gC] w (RLeft w (execP gl P { s with pc := (n : Int) + 1, steps := s.steps + 1 } 16 a b)) := by
  have hnB : n ≤ 9000000000000000000 := by have := hi.nB; omega
  have hdn := hi.dn
  have e : execP gl P { s with pc := (n : Int) + 1, steps := s.steps + 1 } 16 a b = .ok { s with pc := (n : Int) + 1, steps := s.steps + 1, stack := s.stack, done := true } := rfl
  rw [e]
  exact rstep_ok16 cA cC ins V P s vA sA pA nA vC sC pC nC gA gC gl s.stack hr0 hv hs hp hn h3 hi.st hi.s4 n hnL hnB a b hop
theorem any_17 {w : World} (cA : Option Addr) (cC : Nat) (ins : List S42) (V P : Int) (s : St) (vA sA pA nA : Option Addr) (vC sC pC nC : Nat) (gA : Option Addr) (gC : Nat) (gl : List Int) (hr0 : Kd.C k42 w cA ins.length ins) (hv : RD w (.slice vA s.vars.length vC) s.vars) (hs : RD w (.slice sA s.stack.length sC) s.stack) (hp : RD w (.slice pA s.pts.length pC) s.pts) (hn : RD w (.slice nA s.notes.length nC) s.notes) (hG : Kd.C (Kd.int .i64) w gA gl.length gl) (hi : Inv ins P s gl) (h3 : s.steps < 3000) (n : Nat) (hnL : n < ins.length) (a b : Int) (hop : insF ins n = (17, a, b)) :
    Calls Tryd.prog 19 #[.agg #[.slice cA ins.length cC, .int .i64 V, .int .i64 P], .agg (stC (n : Nat) (.slice vA s.vars.length vC) (.slice sA s.stack.length sC) (.slice pA s.pts.length pC) (.slice nA s.notes.length nC) s.fin s.steps s.br false 0), .slice gA gl.length gC] w (RLeft w (execP gl P { s with pc := (n : Int) + 1, steps := s.steps + 1 } 17 a b)) := by
  have hnB : n ≤ 9000000000000000000 := by have := hi.nB; omega
  have hdn := hi.dn
  by_cases ha : 0 ≤ a ∧ a < (s.vars.length : Int)
  · obtain ⟨j, rfl⟩ := Int.eq_ofNat_of_zero_le ha.1
    have hj : j < s.vars.length := by omega
    have hr := rd_mem hi.vr j hj
    rcases (show rd s.vars (j : Int) = 0 ∨ rd s.vars (j : Int) = 1 ∨ 2 ≤ rd s.vars (j : Int) by omega) with hx | hx | hx
    · skip
      have e : execP gl P { s with pc := (n : Int) + 1, steps := s.steps + 1 } 17 (j : Int) b = .ok { s with pc := (n : Int) + 1, steps := s.steps + 1, stack := s.stack, vars := s.vars.set j (0), done := false } := by
        show loopP _ _ _ = _
        unfold loopP
        rw [if_pos ha]
        have hg : s.vars.getD ((j : Int)).toNat 0 = rd s.vars (j : Int) := by rw [rd_getD, Int.toNat_natCast]
        show (if wrap64 (s.vars.getD ((j : Int)).toNat 0 - 1) ≤ 0 then _ else _) = _
        rw [hg, hx]
        rw [if_pos (by unfold wrap64; omega)]
        cases s; simp only at hdn; subst hdn; rfl
      rw [e]
      exact rstep_ok17_0 cA cC ins V P s vA sA pA nA vC sC pC nC gA gC gl s.stack hr0 hv hs hp hn h3 hi.st hi.s4 n hnL hnB j hj b hop hi.v4 hx
    · skip
      have e : execP gl P { s with pc := (n : Int) + 1, steps := s.steps + 1 } 17 (j : Int) b = .ok { s with pc := (n : Int) + 1, steps := s.steps + 1, stack := s.stack, vars := s.vars.set j (0), done := false } := by
        show loopP _ _ _ = _
        unfold loopP
        rw [if_pos ha]
        have hg : s.vars.getD ((j : Int)).toNat 0 = rd s.vars (j : Int) := by rw [rd_getD, Int.toNat_natCast]
        show (if wrap64 (s.vars.getD ((j : Int)).toNat 0 - 1) ≤ 0 then _ else _) = _
        rw [hg, hx]
        rw [if_pos (by unfold wrap64; omega)]
        cases s; simp only at hdn; subst hdn; rfl
      rw [e]
      exact rstep_ok17_1 cA cC ins V P s vA sA pA nA vC sC pC nC gA gC gl s.stack hr0 hv hs hp hn h3 hi.st hi.s4 n hnL hnB j hj b hop hi.v4 hx
    · obtain ⟨m, hm⟩ := Int.eq_ofNat_of_zero_le (show 0 ≤ rd s.vars (j : Int) by omega)
      have hx := hm
      have e : execP gl P { s with pc := (n : Int) + 1, steps := s.steps + 1 } 17 (j : Int) b = .ok { s with pc := b, steps := s.steps + 1, stack := s.stack, vars := s.vars.set j ((m : Int) - 1), done := false } := by
        show loopP _ _ _ = _
        unfold loopP
        rw [if_pos ha]
        have hg : s.vars.getD ((j : Int)).toNat 0 = rd s.vars (j : Int) := by rw [rd_getD, Int.toNat_natCast]
        show (if wrap64 (s.vars.getD ((j : Int)).toNat 0 - 1) ≤ 0 then _ else _) = _
        rw [hg, hx]
        have ew : wrap64 ((m : Int) - 1) = (m : Int) - 1 := by unfold wrap64; omega
        rw [ew, if_neg (by omega)]
        cases s; simp only at hdn; subst hdn; rfl
      rw [e]
      exact rstep_ok17_2 cA cC ins V P s vA sA pA nA vC sC pC nC gA gC gl s.stack hr0 hv hs hp hn h3 hi.st hi.s4 n hnL hnB j hj b hop hi.v4 m hx (by omega) (by omega)
  · have e : execP gl P { s with pc := (n : Int) + 1, steps := s.steps + 1 } 17 a b = .error 21 := by show loopP _ _ _ = _; unfold loopP; rw [if_neg ha]
    rw [e]
    by_cases h0 : a < 0
    · exact rstep_bad_var17lo cA cC ins V P s vA sA pA nA vC sC pC nC gA gC gl hr0 hv hs hp hn h3 n hnL 17 a b hop 0 pops_17 rfl (Nat.zero_le _) h0
    · exact rstep_bad_var17hi cA cC ins V P s vA sA pA nA vC sC pC nC gA gC gl hr0 hv hs hp hn h3 n hnL 17 a b hop 0 pops_17 rfl (Nat.zero_le _) (by omega)
theorem any_11 {w : World} (cA : Option Addr) (cC : Nat) (ins : List S42) (V P : Int) (s : St) (vA sA pA nA : Option Addr) (vC sC pC nC : Nat) (gA : Option Addr) (gC : Nat) (gl : List Int) (hr0 : Kd.C k42 w cA ins.length ins) (hv : RD w (.slice vA s.vars.length vC) s.vars) (hs : RD w (.slice sA s.stack.length sC) s.stack) (hp : RD w (.slice pA s.pts.length pC) s.pts) (hn : RD w (.slice nA s.notes.length nC) s.notes) (hG : Kd.C (Kd.int .i64) w gA gl.length gl) (hi : Inv ins P s gl) (h3 : s.steps < 3000) (n : Nat) (hnL : n < ins.length) (a b : Int) (hop : insF ins n = (11, a, b)) :
    Calls Tryd.prog 19 #[.agg #[.slice cA ins.length cC, .int .i64 V, .int .i64 P], .agg (stC (n : Nat) (.slice vA s.vars.length vC) (.slice sA s.stack.length sC) (.slice pA s.pts.length pC) (.slice nA s.notes.length nC) s.fin s.steps s.br false 0), .slice gA gl.length gC] w (RLeft w (execP gl P { s with pc := (n : Int) + 1, steps := s.steps + 1 } 11 a b)) := by
  have hnB : n ≤ 9000000000000000000 := by have := hi.nB; omega
  have hdn := hi.dn
  rcases stack_split s.stack with hst | ⟨xs, x, hst⟩
  · have e : execP gl P { s with pc := (n : Int) + 1, steps := s.steps + 1 } 11 a b = .error 21 := by show notP _ = _; unfold notP; rw [if_pos hst]
    rw [e]
    exact rstep_bad_few0 cA cC ins V P s vA sA pA nA vC sC pC nC gA gC gl hr0 hv hs hp hn h3 n hnL 11 a b hop 1 pops_11 (by decide) (by rw [hst]; decide)
  · have hl : s.stack.length = xs.length + 1 := by rw [hst]; simp
    have h4 := hi.s4
    have e1 : s.stack.getLastD 0 = x := by rw [hst]; simp
    have e2 : s.stack.dropLast = xs := by rw [hst]; simp
    have hs1 := hs
    rw [hl, hst] at hs1
    have e : execP gl P { s with pc := (n : Int) + 1, steps := s.steps + 1 } 11 a b = pushP { s with pc := (n : Int) + 1, steps := s.steps + 1, stack := xs } (b2i (x == 0)) := by
      show notP _ = _
      unfold notP
      rw [if_neg (by show s.stack ≠ []; rw [hst]; simp)]
      show pushP { s with pc := (n : Int) + 1, steps := s.steps + 1, stack := s.stack.dropLast } (b2i (s.stack.getLastD 0 == 0)) = _
      rw [e1, e2]
    rw [e, hl]
    refine rstep_ok11 cA cC ins V P s vA sA pA nA vC sC pC nC gA gC gl xs x hr0 hv hs1 hp hn h3 hi.st (by omega) n hnL hnB a b hop _ ?_
    rw [st_eta s hdn]
theorem any_14 {w : World} (cA : Option Addr) (cC : Nat) (ins : List S42) (V P : Int) (s : St) (vA sA pA nA : Option Addr) (vC sC pC nC : Nat) (gA : Option Addr) (gC : Nat) (gl : List Int) (hr0 : Kd.C k42 w cA ins.length ins) (hv : RD w (.slice vA s.vars.length vC) s.vars) (hs : RD w (.slice sA s.stack.length sC) s.stack) (hp : RD w (.slice pA s.pts.length pC) s.pts) (hn : RD w (.slice nA s.notes.length nC) s.notes) (hG : Kd.C (Kd.int .i64) w gA gl.length gl) (hi : Inv ins P s gl) (h3 : s.steps < 3000) (n : Nat) (hnL : n < ins.length) (a b : Int) (hop : insF ins n = (14, a, b)) :
    Calls Tryd.prog 19 #[.agg #[.slice cA ins.length cC, .int .i64 V, .int .i64 P], .agg (stC (n : Nat) (.slice vA s.vars.length vC) (.slice sA s.stack.length sC) (.slice pA s.pts.length pC) (.slice nA s.notes.length nC) s.fin s.steps s.br false 0), .slice gA gl.length gC] w (RLeft w (execP gl P { s with pc := (n : Int) + 1, steps := s.steps + 1 } 14 a b)) := by
  have hnB : n ≤ 9000000000000000000 := by have := hi.nB; omega
  have hdn := hi.dn
  rcases stack_split s.stack with hst | ⟨xs, x, hst⟩
  · have e : execP gl P { s with pc := (n : Int) + 1, steps := s.steps + 1 } 14 a b = .error 21 := by show noteP _ = _; unfold noteP; rw [if_pos hst]
    rw [e]
    exact rstep_bad_few0 cA cC ins V P s vA sA pA nA vC sC pC nC gA gC gl hr0 hv hs hp hn h3 n hnL 14 a b hop 1 pops_14 (by decide) (by rw [hst]; decide)
  · have hl : s.stack.length = xs.length + 1 := by rw [hst]; simp
    have h4 := hi.s4
    have e1 : s.stack.getLastD 0 = x := by rw [hst]; simp
    have e2 : s.stack.dropLast = xs := by rw [hst]; simp
    have hs1 := hs
    rw [hl, hst] at hs1
    have e : execP gl P { s with pc := (n : Int) + 1, steps := s.steps + 1 } 14 a b = .ok { s with pc := (n : Int) + 1, steps := s.steps + 1, stack := xs, notes := s.notes ++ [x], done := false } := by
      show noteP _ = _
      unfold noteP
      rw [if_neg (by show s.stack ≠ []; rw [hst]; simp)]
      show Except.ok { s with pc := (n : Int) + 1, steps := s.steps + 1, notes := s.notes ++ [s.stack.getLastD 0], stack := s.stack.dropLast } = _
      rw [e1, e2]
      cases s; simp only at hdn; subst hdn; rfl
    rw [e, hl]
    exact rstep_ok14 cA cC ins V P s vA sA pA nA vC sC pC nC gA gC gl xs x hr0 hv hs1 hp hn h3 hi.st (by omega) n hnL hnB a b hop hi.nt
theorem any_3 {w : World} (cA : Option Addr) (cC : Nat) (ins : List S42) (V P : Int) (s : St) (vA sA pA nA : Option Addr) (vC sC pC nC : Nat) (gA : Option Addr) (gC : Nat) (gl : List Int) (hr0 : Kd.C k42 w cA ins.length ins) (hv : RD w (.slice vA s.vars.length vC) s.vars) (hs : RD w (.slice sA s.stack.length sC) s.stack) (hp : RD w (.slice pA s.pts.length pC) s.pts) (hn : RD w (.slice nA s.notes.length nC) s.notes) (hG : Kd.C (Kd.int .i64) w gA gl.length gl) (hi : Inv ins P s gl) (h3 : s.steps < 3000) (n : Nat) (hnL : n < ins.length) (a b : Int) (hop : insF ins n = (3, a, b)) :
    Calls Tryd.prog 19 #[.agg #[.slice cA ins.length cC, .int .i64 V, .int .i64 P], .agg (stC (n : Nat) (.slice vA s.vars.length vC) (.slice sA s.stack.length sC) (.slice pA s.pts.length pC) (.slice nA s.notes.length nC) s.fin s.steps s.br false 0), .slice gA gl.length gC] w (RLeft w (execP gl P { s with pc := (n : Int) + 1, steps := s.steps + 1 } 3 a b)) := by
  have hnB : n ≤ 9000000000000000000 := by have := hi.nB; omega
  have hdn := hi.dn
  rcases stack_split s.stack with hst | ⟨xs, x, hst⟩
  · have e : execP gl P { s with pc := (n : Int) + 1, steps := s.steps + 1 } 3 a b = .error 21 := by show storeP _ _ = _; unfold storeP; rw [if_pos hst]
    rw [e]
    exact rstep_bad_few3 cA cC ins V P s vA sA pA nA vC sC pC nC gA gC gl hr0 hv hs hp hn h3 n hnL 3 a b hop 1 pops_3 rfl (by rw [hst]; decide)
  · have hl : s.stack.length = xs.length + 1 := by rw [hst]; simp
    have h4 := hi.s4
    have e1 : s.stack.getLastD 0 = x := by rw [hst]; simp
    have e2 : s.stack.dropLast = xs := by rw [hst]; simp
    have hs1 := hs
    rw [hl, hst] at hs1
    by_cases ha : 0 ≤ a ∧ a < (s.vars.length : Int)
    · obtain ⟨j, rfl⟩ := Int.eq_ofNat_of_zero_le ha.1
      have hj : j < s.vars.length := by omega
      have e : execP gl P { s with pc := (n : Int) + 1, steps := s.steps + 1 } 3 (j : Int) b = .ok { s with pc := (n : Int) + 1, steps := s.steps + 1, stack := xs, vars := s.vars.set j x, done := false } := by
        show storeP _ _ = _
        unfold storeP
        rw [if_neg (by show s.stack ≠ []; rw [hst]; simp), if_pos ha]
        show Except.ok { s with pc := (n : Int) + 1, steps := s.steps + 1, vars := s.vars.set ((j : Int)).toNat (s.stack.getLastD 0), stack := s.stack.dropLast } = _
        rw [e1, e2, Int.toNat_natCast]
        cases s; simp only at hdn; subst hdn; rfl
      rw [e, hl]
      exact rstep_ok3 cA cC ins V P s vA sA pA nA vC sC pC nC gA gC gl xs x hr0 hv hs1 hp hn h3 hi.st (by omega) n hnL hnB j hj b hop hi.v4
    · have e : execP gl P { s with pc := (n : Int) + 1, steps := s.steps + 1 } 3 a b = .error 21 := by
        show storeP _ _ = _
        unfold storeP
        rw [if_neg (by show s.stack ≠ []; rw [hst]; simp), if_neg ha]
      rw [e]
      by_cases h0 : a < 0
      · exact rstep_bad_var3lo cA cC ins V P s vA sA pA nA vC sC pC nC gA gC gl hr0 hv hs hp hn h3 n hnL 3 a b hop 1 pops_3 rfl (by omega) h0
      · exact rstep_bad_var3hi cA cC ins V P s vA sA pA nA vC sC pC nC gA gC gl hr0 hv hs hp hn h3 n hnL 3 a b hop 1 pops_3 rfl (by omega) (by omega)
theorem any_12 {w : World} (cA : Option Addr) (cC : Nat) (ins : List S42) (V P : Int) (s : St) (vA sA pA nA : Option Addr) (vC sC pC nC : Nat) (gA : Option Addr) (gC : Nat) (gl : List Int) (hr0 : Kd.C k42 w cA ins.length ins) (hv : RD w (.slice vA s.vars.length vC) s.vars) (hs : RD w (.slice sA s.stack.length sC) s.stack) (hp : RD w (.slice pA s.pts.length pC) s.pts) (hn : RD w (.slice nA s.notes.length nC) s.notes) (hG : Kd.C (Kd.int .i64) w gA gl.length gl) (hi : Inv ins P s gl) (h3 : s.steps < 3000) (n : Nat) (hnL : n < ins.length) (a b : Int) (hop : insF ins n = (12, a, b)) :
    Calls Tryd.prog 19 #[.agg #[.slice cA ins.length cC, .int .i64 V, .int .i64 P], .agg (stC (n : Nat) (.slice vA s.vars.length vC) (.slice sA s.stack.length sC) (.slice pA s.pts.length pC) (.slice nA s.notes.length nC) s.fin s.steps s.br false 0), .slice gA gl.length gC] w (RLeft w (execP gl P { s with pc := (n : Int) + 1, steps := s.steps + 1 } 12 a b)) := by
  have hnB : n ≤ 9000000000000000000 := by have := hi.nB; omega
  have hdn := hi.dn
  rcases stack_split s.stack with hst | ⟨xs, x, hst⟩
  · have e : execP gl P { s with pc := (n : Int) + 1, steps := s.steps + 1 } 12 a b = .error 21 := by show branchP _ _ _ _ _ = _; unfold branchP; rw [if_pos hst]
    rw [e]
    exact rstep_bad_few12 cA cC ins V P s vA sA pA nA vC sC pC nC gA gC gl hr0 hv hs hp hn h3 n hnL 12 a b hop 1 pops_12 rfl (by rw [hst]; decide)
  · have hl : s.stack.length = xs.length + 1 := by rw [hst]; simp
    have h4 := hi.s4
    have e1 : s.stack.getLastD 0 = x := by rw [hst]; simp
    have e2 : s.stack.dropLast = xs := by rw [hst]; simp
    have hs1 := hs
    rw [hl, hst] at hs1
    by_cases hb : 0 ≤ b ∧ b < P
    · obtain ⟨j, rfl⟩ := Int.eq_ofNat_of_zero_le hb.1
      have hj : j < s.pts.length := by have := hi.pP; omega
      have ew : wrap64 (s.br + 1) = s.br + 1 := by have h1 := hi.b0; have h2 := hi.b1; unfold wrap64; omega
      have eg : s.pts.getD ((j : Int)).toNat 0 = rd s.pts (j : Int) := by rw [rd_getD, Int.toNat_natCast]
      have e : execP gl P { s with pc := (n : Int) + 1, steps := s.steps + 1 } 12 a (j : Int) = .ok (if (x != 0) != (gl.any fun y => s.br == y) then { s with pc := (n : Int) + 1, steps := s.steps + 1, stack := xs, br := s.br + 1, pts := s.pts.set j (orV (rd s.pts (j : Int)) 1), done := false } else { s with pc := a, steps := s.steps + 1, stack := xs, br := s.br + 1, pts := s.pts.set j (orV (rd s.pts (j : Int)) 2), done := false }) := by
        show branchP _ _ _ _ _ = _
        unfold branchP
        rw [if_neg (by show s.stack ≠ []; rw [hst]; simp), if_pos hb]
        show Except.ok (if (s.stack.getLastD 0 != 0) != (gl.any fun y => s.br == y) then { s with pc := (n : Int) + 1, steps := s.steps + 1, stack := s.stack.dropLast, br := wrap64 (s.br + 1), pts := s.pts.set ((j : Int)).toNat (orV (s.pts.getD ((j : Int)).toNat 0) 1) } else { s with pc := a, steps := s.steps + 1, stack := s.stack.dropLast, br := wrap64 (s.br + 1), pts := s.pts.set ((j : Int)).toNat (orV (s.pts.getD ((j : Int)).toNat 0) 2) }) = _
        rw [e1, e2, eg, ew, Int.toNat_natCast]
        cases s; simp only at hdn; subst hdn; rfl
      rw [e, hl]
      cases ht : (x != 0) <;> cases hin : (gl.any fun y => s.br == y)
      · exact rstep_ok12_00 cA cC ins V P s vA sA pA nA vC sC pC nC gA gC gl xs x hr0 hv hs1 hp hn h3 hi.st (by omega) n hnL hnB a j hj hop hi.p4 hi.pP hi.b0 hi.b1 hi.gl2 hG ht hin
      · exact rstep_ok12_01 cA cC ins V P s vA sA pA nA vC sC pC nC gA gC gl xs x hr0 hv hs1 hp hn h3 hi.st (by omega) n hnL hnB a j hj hop hi.p4 hi.pP hi.b0 hi.b1 hi.gl2 hG ht hin
      · exact rstep_ok12_10 cA cC ins V P s vA sA pA nA vC sC pC nC gA gC gl xs x hr0 hv hs1 hp hn h3 hi.st (by omega) n hnL hnB a j hj hop hi.p4 hi.pP hi.b0 hi.b1 hi.gl2 hG ht hin
      · exact rstep_ok12_11 cA cC ins V P s vA sA pA nA vC sC pC nC gA gC gl xs x hr0 hv hs1 hp hn h3 hi.st (by omega) n hnL hnB a j hj hop hi.p4 hi.pP hi.b0 hi.b1 hi.gl2 hG ht hin
    · have e : execP gl P { s with pc := (n : Int) + 1, steps := s.steps + 1 } 12 a b = .error 21 := by
        show branchP _ _ _ _ _ = _
        unfold branchP
        rw [if_neg (by show s.stack ≠ []; rw [hst]; simp), if_neg hb]
      rw [e]
      by_cases h0 : b < 0
      · exact rstep_bad_ptlo cA cC ins V P s vA sA pA nA vC sC pC nC gA gC gl hr0 hv hs hp hn h3 n hnL 12 a b hop 1 pops_12 rfl (by omega) h0
      · exact rstep_bad_pthi cA cC ins V P s vA sA pA nA vC sC pC nC gA gC gl hr0 hv hs hp hn h3 n hnL 12 a b hop 1 pops_12 rfl (by omega) (by omega) (by have := hi.pP; omega)
theorem any_4 {w : World} (cA : Option Addr) (cC : Nat) (ins : List S42) (V P : Int) (s : St) (vA sA pA nA : Option Addr) (vC sC pC nC : Nat) (gA : Option Addr) (gC : Nat) (gl : List Int) (hr0 : Kd.C k42 w cA ins.length ins) (hv : RD w (.slice vA s.vars.length vC) s.vars) (hs : RD w (.slice sA s.stack.length sC) s.stack) (hp : RD w (.slice pA s.pts.length pC) s.pts) (hn : RD w (.slice nA s.notes.length nC) s.notes) (hG : Kd.C (Kd.int .i64) w gA gl.length gl) (hi : Inv ins P s gl) (h3 : s.steps < 3000) (n : Nat) (hnL : n < ins.length) (a b : Int) (hop : insF ins n = (4, a, b)) :
    Calls Tryd.prog 19 #[.agg #[.slice cA ins.length cC, .int .i64 V, .int .i64 P], .agg (stC (n : Nat) (.slice vA s.vars.length vC) (.slice sA s.stack.length sC) (.slice pA s.pts.length pC) (.slice nA s.notes.length nC) s.fin s.steps s.br false 0), .slice gA gl.length gC] w (RLeft w (execP gl P { s with pc := (n : Int) + 1, steps := s.steps + 1 } 4 a b)) := by
  have hnB : n ≤ 9000000000000000000 := by have := hi.nB; omega
  have hdn := hi.dn
  by_cases hst1 : s.stack.length ≤ 1
  · have e : execP gl P { s with pc := (n : Int) + 1, steps := s.steps + 1 } 4 a b = .error 21 := by show binaryP _ _ = _; unfold binaryP; rw [if_pos hst1]
    rw [e]
    exact rstep_bad_few0 cA cC ins V P s vA sA pA nA vC sC pC nC gA gC gl hr0 hv hs hp hn h3 n hnL 4 a b hop 2 pops_4 (by decide) (by omega)
  · obtain ⟨xs, y, x, hst⟩ := stack_split2 s.stack hst1
    have hl : s.stack.length = xs.length + 1 + 1 := by rw [hst]; simp
    have h4 := hi.s4
    have e1 : s.stack.getLastD 0 = x := by rw [hst]; simp
    have e3 : s.stack.dropLast.getLastD 0 = y := by rw [hst]; simp
    have e2 : s.stack.dropLast.dropLast = xs := by rw [hst]; simp
    have hs1 := hs
    rw [hl, hst] at hs1
    have e : execP gl P { s with pc := (n : Int) + 1, steps := s.steps + 1 } 4 a b = pushP { s with pc := (n : Int) + 1, steps := s.steps + 1, stack := xs } (binV 4 y x) := by
      show binaryP _ _ = _
      unfold binaryP
      rw [if_neg (show ¬ s.stack.length ≤ 1 by omega)]
      show pushP { s with pc := (n : Int) + 1, steps := s.steps + 1, stack := s.stack.dropLast.dropLast } (binV 4 (s.stack.dropLast.getLastD 0) (s.stack.getLastD 0)) = _
      rw [e1, e2, e3]
    rw [e, hl]
    refine rstep_ok4 cA cC ins V P s vA sA pA nA vC sC pC nC gA gC gl xs y x hr0 hv hs1 hp hn h3 hi.st (by omega) n hnL hnB a b hop _ ?_
    rw [st_eta s hdn]
theorem any_5 {w : World} (cA : Option Addr) (cC : Nat) (ins : List S42) (V P : Int) (s : St) (vA sA pA nA : Option Addr) (vC sC pC nC : Nat) (gA : Option Addr) (gC : Nat) (gl : List Int) (hr0 : Kd.C k42 w cA ins.length ins) (hv : RD w (.slice vA s.vars.length vC) s.vars) (hs : RD w (.slice sA s.stack.length sC) s.stack) (hp : RD w (.slice pA s.pts.length pC) s.pts) (hn : RD w (.slice nA s.notes.length nC) s.notes) (hG : Kd.C (Kd.int .i64) w gA gl.length gl) (hi : Inv ins P s gl) (h3 : s.steps < 3000) (n : Nat) (hnL : n < ins.length) (a b : Int) (hop : insF ins n = (5, a, b)) :
    Calls Tryd.prog 19 #[.agg #[.slice cA ins.length cC, .int .i64 V, .int .i64 P], .agg (stC (n : Nat) (.slice vA s.vars.length vC) (.slice sA s.stack.length sC) (.slice pA s.pts.length pC) (.slice nA s.notes.length nC) s.fin s.steps s.br false 0), .slice gA gl.length gC] w (RLeft w (execP gl P { s with pc := (n : Int) + 1, steps := s.steps + 1 } 5 a b)) := by
  have hnB : n ≤ 9000000000000000000 := by have := hi.nB; omega
  have hdn := hi.dn
  by_cases hst1 : s.stack.length ≤ 1
  · have e : execP gl P { s with pc := (n : Int) + 1, steps := s.steps + 1 } 5 a b = .error 21 := by show binaryP _ _ = _; unfold binaryP; rw [if_pos hst1]
    rw [e]
    exact rstep_bad_few0 cA cC ins V P s vA sA pA nA vC sC pC nC gA gC gl hr0 hv hs hp hn h3 n hnL 5 a b hop 2 pops_5 (by decide) (by omega)
  · obtain ⟨xs, y, x, hst⟩ := stack_split2 s.stack hst1
    have hl : s.stack.length = xs.length + 1 + 1 := by rw [hst]; simp
    have h4 := hi.s4
    have e1 : s.stack.getLastD 0 = x := by rw [hst]; simp
    have e3 : s.stack.dropLast.getLastD 0 = y := by rw [hst]; simp
    have e2 : s.stack.dropLast.dropLast = xs := by rw [hst]; simp
    have hs1 := hs
    rw [hl, hst] at hs1
    have e : execP gl P { s with pc := (n : Int) + 1, steps := s.steps + 1 } 5 a b = pushP { s with pc := (n : Int) + 1, steps := s.steps + 1, stack := xs } (binV 5 y x) := by
      show binaryP _ _ = _
      unfold binaryP
      rw [if_neg (show ¬ s.stack.length ≤ 1 by omega)]
      show pushP { s with pc := (n : Int) + 1, steps := s.steps + 1, stack := s.stack.dropLast.dropLast } (binV 5 (s.stack.dropLast.getLastD 0) (s.stack.getLastD 0)) = _
      rw [e1, e2, e3]
    rw [e, hl]
    refine rstep_ok5 cA cC ins V P s vA sA pA nA vC sC pC nC gA gC gl xs y x hr0 hv hs1 hp hn h3 hi.st (by omega) n hnL hnB a b hop _ ?_
    rw [st_eta s hdn]
theorem any_6 {w : World} (cA : Option Addr) (cC : Nat) (ins : List S42) (V P : Int) (s : St) (vA sA pA nA : Option Addr) (vC sC pC nC : Nat) (gA : Option Addr) (gC : Nat) (gl : List Int) (hr0 : Kd.C k42 w cA ins.length ins) (hv : RD w (.slice vA s.vars.length vC) s.vars) (hs : RD w (.slice sA s.stack.length sC) s.stack) (hp : RD w (.slice pA s.pts.length pC) s.pts) (hn : RD w (.slice nA s.notes.length nC) s.notes) (hG : Kd.C (Kd.int .i64) w gA gl.length gl) (hi : Inv ins P s gl) (h3 : s.steps < 3000) (n : Nat) (hnL : n < ins.length) (a b : Int) (hop : insF ins n = (6, a, b)) :
    Calls Tryd.prog 19 #[.agg #[.slice cA ins.length cC, .int .i64 V, .int .i64 P], .agg (stC (n : Nat) (.slice vA s.vars.length vC) (.slice sA s.stack.length sC) (.slice pA s.pts.length pC) (.slice nA s.notes.length nC) s.fin s.steps s.br false 0), .slice gA gl.length gC] w (RLeft w (execP gl P { s with pc := (n : Int) + 1, steps := s.steps + 1 } 6 a b)) := by
  have hnB : n ≤ 9000000000000000000 := by have := hi.nB; omega
  have hdn := hi.dn
  by_cases hst1 : s.stack.length ≤ 1
  · have e : execP gl P { s with pc := (n : Int) + 1, steps := s.steps + 1 } 6 a b = .error 21 := by show binaryP _ _ = _; unfold binaryP; rw [if_pos hst1]
    rw [e]
    exact rstep_bad_few0 cA cC ins V P s vA sA pA nA vC sC pC nC gA gC gl hr0 hv hs hp hn h3 n hnL 6 a b hop 2 pops_6 (by decide) (by omega)
  · obtain ⟨xs, y, x, hst⟩ := stack_split2 s.stack hst1
    have hl : s.stack.length = xs.length + 1 + 1 := by rw [hst]; simp
    have h4 := hi.s4
    have e1 : s.stack.getLastD 0 = x := by rw [hst]; simp
    have e3 : s.stack.dropLast.getLastD 0 = y := by rw [hst]; simp
    have e2 : s.stack.dropLast.dropLast = xs := by rw [hst]; simp
    have hs1 := hs
    rw [hl, hst] at hs1
    have e : execP gl P { s with pc := (n : Int) + 1, steps := s.steps + 1 } 6 a b = pushP { s with pc := (n : Int) + 1, steps := s.steps + 1, stack := xs } (binV 6 y x) := by
      show binaryP _ _ = _
      unfold binaryP
      rw [if_neg (show ¬ s.stack.length ≤ 1 by omega)]
      show pushP { s with pc := (n : Int) + 1, steps := s.steps + 1, stack := s.stack.dropLast.dropLast } (binV 6 (s.stack.dropLast.getLastD 0) (s.stack.getLastD 0)) = _
      rw [e1, e2, e3]
    rw [e, hl]
    refine rstep_ok6 cA cC ins V P s vA sA pA nA vC sC pC nC gA gC gl xs y x hr0 hv hs1 hp hn h3 hi.st (by omega) n hnL hnB a b hop _ ?_
    rw [st_eta s hdn]
theorem any_7 {w : World} (cA : Option Addr) (cC : Nat) (ins : List S42) (V P : Int) (s : St) (vA sA pA nA : Option Addr) (vC sC pC nC : Nat) (gA : Option Addr) (gC : Nat) (gl : List Int) (hr0 : Kd.C k42 w cA ins.length ins) (hv : RD w (.slice vA s.vars.length vC) s.vars) (hs : RD w (.slice sA s.stack.length sC) s.stack) (hp : RD w (.slice pA s.pts.length pC) s.pts) (hn : RD w (.slice nA s.notes.length nC) s.notes) (hG : Kd.C (Kd.int .i64) w gA gl.length gl) (hi : Inv ins P s gl) (h3 : s.steps < 3000) (n : Nat) (hnL : n < ins.length) (a b : Int) (hop : insF ins n = (7, a, b)) :
    Calls Tryd.prog 19 #[.agg #[.slice cA ins.length cC, .int .i64 V, .int .i64 P], .agg (stC (n : Nat) (.slice vA s.vars.length vC) (.slice sA s.stack.length sC) (.slice pA s.pts.length pC) (.slice nA s.notes.length nC) s.fin s.steps s.br false 0), .slice gA gl.length gC] w (RLeft w (execP gl P { s with pc := (n : Int) + 1, steps := s.steps + 1 } 7 a b)) := by
  have hnB : n ≤ 9000000000000000000 := by have := hi.nB; omega
  have hdn := hi.dn
  by_cases hst1 : s.stack.length ≤ 1
  · have e : execP gl P { s with pc := (n : Int) + 1, steps := s.steps + 1 } 7 a b = .error 21 := by show binaryP _ _ = _; unfold binaryP; rw [if_pos hst1]
    rw [e]
    exact rstep_bad_few0 cA cC ins V P s vA sA pA nA vC sC pC nC gA gC gl hr0 hv hs hp hn h3 n hnL 7 a b hop 2 pops_7 (by decide) (by omega)
  · obtain ⟨xs, y, x, hst⟩ := stack_split2 s.stack hst1
    have hl : s.stack.length = xs.length + 1 + 1 := by rw [hst]; simp
    have h4 := hi.s4
    have e1 : s.stack.getLastD 0 = x := by rw [hst]; simp
    have e3 : s.stack.dropLast.getLastD 0 = y := by rw [hst]; simp
    have e2 : s.stack.dropLast.dropLast = xs := by rw [hst]; simp
    have hs1 := hs
    rw [hl, hst] at hs1
    have e : execP gl P { s with pc := (n : Int) + 1, steps := s.steps + 1 } 7 a b = pushP { s with pc := (n : Int) + 1, steps := s.steps + 1, stack := xs } (binV 7 y x) := by
      show binaryP _ _ = _
      unfold binaryP
      rw [if_neg (show ¬ s.stack.length ≤ 1 by omega)]
      show pushP { s with pc := (n : Int) + 1, steps := s.steps + 1, stack := s.stack.dropLast.dropLast } (binV 7 (s.stack.dropLast.getLastD 0) (s.stack.getLastD 0)) = _
      rw [e1, e2, e3]
    rw [e, hl]
    refine rstep_ok7 cA cC ins V P s vA sA pA nA vC sC pC nC gA gC gl xs y x hr0 hv hs1 hp hn h3 hi.st (by omega) n hnL hnB a b hop _ ?_
    rw [st_eta s hdn]
theorem any_8 {w : World} (cA : Option Addr) (cC : Nat) (ins : List S42) (V P : Int) (s : St) (vA sA pA nA : Option Addr) (vC sC pC nC : Nat) (gA : Option Addr) (gC : Nat) (gl : List Int) (hr0 : Kd.C k42 w cA ins.length ins) (hv : RD w (.slice vA s.vars.length vC) s.vars) (hs : RD w (.slice sA s.stack.length sC) s.stack) (hp : RD w (.slice pA s.pts.length pC) s.pts) (hn : RD w (.slice nA s.notes.length nC) s.notes) (hG : Kd.C (Kd.int .i64) w gA gl.length gl) (hi : Inv ins P s gl) (h3 : s.steps < 3000) (n : Nat) (hnL : n < ins.length) (a b : Int) (hop : insF ins n = (8, a, b)) :
    Calls Tryd.prog 19 #[.agg #[.slice cA ins.length cC, .int .i64 V, .int .i64 P], .agg (stC (n : Nat) (.slice vA s.vars.length vC) (.slice sA s.stack.length sC) (.slice pA s.pts.length pC) (.slice nA s.notes.length nC) s.fin s.steps s.br false 0), .slice gA gl.length gC] w (RLeft w (execP gl P { s with pc := (n : Int) + 1, steps := s.steps + 1 } 8 a b)) := by
  have hnB : n ≤ 9000000000000000000 := by have := hi.nB; omega
  have hdn := hi.dn
  by_cases hst1 : s.stack.length ≤ 1
  · have e : execP gl P { s with pc := (n : Int) + 1, steps := s.steps + 1 } 8 a b = .error 21 := by show binaryP _ _ = _; unfold binaryP; rw [if_pos hst1]
    rw [e]
    exact rstep_bad_few0 cA cC ins V P s vA sA pA nA vC sC pC nC gA gC gl hr0 hv hs hp hn h3 n hnL 8 a b hop 2 pops_8 (by decide) (by omega)
  · obtain ⟨xs, y, x, hst⟩ := stack_split2 s.stack hst1
    have hl : s.stack.length = xs.length + 1 + 1 := by rw [hst]; simp
    have h4 := hi.s4
    have e1 : s.stack.getLastD 0 = x := by rw [hst]; simp
    have e3 : s.stack.dropLast.getLastD 0 = y := by rw [hst]; simp
    have e2 : s.stack.dropLast.dropLast = xs := by rw [hst]; simp
    have hs1 := hs
    rw [hl, hst] at hs1
    have e : execP gl P { s with pc := (n : Int) + 1, steps := s.steps + 1 } 8 a b = pushP { s with pc := (n : Int) + 1, steps := s.steps + 1, stack := xs } (binV 8 y x) := by
      show binaryP _ _ = _
      unfold binaryP
      rw [if_neg (show ¬ s.stack.length ≤ 1 by omega)]
      show pushP { s with pc := (n : Int) + 1, steps := s.steps + 1, stack := s.stack.dropLast.dropLast } (binV 8 (s.stack.dropLast.getLastD 0) (s.stack.getLastD 0)) = _
      rw [e1, e2, e3]
    rw [e, hl]
    refine rstep_ok8 cA cC ins V P s vA sA pA nA vC sC pC nC gA gC gl xs y x hr0 hv hs1 hp hn h3 hi.st (by omega) n hnL hnB a b hop _ ?_
    rw [st_eta s hdn]
theorem any_9 {w : World} (cA : Option Addr) (cC : Nat) (ins : List S42) (V P : Int) (s : St) (vA sA pA nA : Option Addr) (vC sC pC nC : Nat) (gA : Option Addr) (gC : Nat) (gl : List Int) (hr0 : Kd.C k42 w cA ins.length ins) (hv : RD w (.slice vA s.vars.length vC) s.vars) (hs : RD w (.slice sA s.stack.length sC) s.stack) (hp : RD w (.slice pA s.pts.length pC) s.pts) (hn : RD w (.slice nA s.notes.length nC) s.notes) (hG : Kd.C (Kd.int .i64) w gA gl.length gl) (hi : Inv ins P s gl) (h3 : s.steps < 3000) (n : Nat) (hnL : n < ins.length) (a b : Int) (hop : insF ins n = (9, a, b)) :
    Calls Tryd.prog 19 #[.agg #[.slice cA ins.length cC, .int .i64 V, .int .i64 P], .agg (stC (n : Nat) (.slice vA s.vars.length vC) (.slice sA s.stack.length sC) (.slice pA s.pts.length pC) (.slice nA s.notes.length nC) s.fin s.steps s.br false 0), .slice gA gl.length gC] w (RLeft w (execP gl P { s with pc := (n : Int) + 1, steps := s.steps + 1 } 9 a b)) := by
  have hnB : n ≤ 9000000000000000000 := by have := hi.nB; omega
  have hdn := hi.dn
  by_cases hst1 : s.stack.length ≤ 1
  · have e : execP gl P { s with pc := (n : Int) + 1, steps := s.steps + 1 } 9 a b = .error 21 := by show binaryP _ _ = _; unfold binaryP; rw [if_pos hst1]
    rw [e]
    exact rstep_bad_few0 cA cC ins V P s vA sA pA nA vC sC pC nC gA gC gl hr0 hv hs hp hn h3 n hnL 9 a b hop 2 pops_9 (by decide) (by omega)
  · obtain ⟨xs, y, x, hst⟩ := stack_split2 s.stack hst1
    have hl : s.stack.length = xs.length + 1 + 1 := by rw [hst]; simp
    have h4 := hi.s4
    have e1 : s.stack.getLastD 0 = x := by rw [hst]; simp
    have e3 : s.stack.dropLast.getLastD 0 = y := by rw [hst]; simp
    have e2 : s.stack.dropLast.dropLast = xs := by rw [hst]; simp
    have hs1 := hs
    rw [hl, hst] at hs1
    have e : execP gl P { s with pc := (n : Int) + 1, steps := s.steps + 1 } 9 a b = pushP { s with pc := (n : Int) + 1, steps := s.steps + 1, stack := xs } (binV 9 y x) := by
      show binaryP _ _ = _
      unfold binaryP
      rw [if_neg (show ¬ s.stack.length ≤ 1 by omega)]
      show pushP { s with pc := (n : Int) + 1, steps := s.steps + 1, stack := s.stack.dropLast.dropLast } (binV 9 (s.stack.dropLast.getLastD 0) (s.stack.getLastD 0)) = _
      rw [e1, e2, e3]
    rw [e, hl]
    refine rstep_ok9 cA cC ins V P s vA sA pA nA vC sC pC nC gA gC gl xs y x hr0 hv hs1 hp hn h3 hi.st (by omega) n hnL hnB a b hop _ ?_
    rw [st_eta s hdn]
theorem any_10 {w : World} (cA : Option Addr) (cC : Nat) (ins : List S42) (V P : Int) (s : St) (vA sA pA nA : Option Addr) (vC sC pC nC : Nat) (gA : Option Addr) (gC : Nat) (gl : List Int) (hr0 : Kd.C k42 w cA ins.length ins) (hv : RD w (.slice vA s.vars.length vC) s.vars) (hs : RD w (.slice sA s.stack.length sC) s.stack) (hp : RD w (.slice pA s.pts.length pC) s.pts) (hn : RD w (.slice nA s.notes.length nC) s.notes) (hG : Kd.C (Kd.int .i64) w gA gl.length gl) (hi : Inv ins P s gl) (h3 : s.steps < 3000) (n : Nat) (hnL : n < ins.length) (a b : Int) (hop : insF ins n = (10, a, b)) :
    Calls Tryd.prog 19 #[.agg #[.slice cA ins.length cC, .int .i64 V, .int .i64 P], .agg (stC (n : Nat) (.slice vA s.vars.length vC) (.slice sA s.stack.length sC) (.slice pA s.pts.length pC) (.slice nA s.notes.length nC) s.fin s.steps s.br false 0), .slice gA gl.length gC] w (RLeft w (execP gl P { s with pc := (n : Int) + 1, steps := s.steps + 1 } 10 a b)) := by
  have hnB : n ≤ 9000000000000000000 := by have := hi.nB; omega
  have hdn := hi.dn
  by_cases hst1 : s.stack.length ≤ 1
  · have e : execP gl P { s with pc := (n : Int) + 1, steps := s.steps + 1 } 10 a b = .error 21 := by show binaryP _ _ = _; unfold binaryP; rw [if_pos hst1]
    rw [e]
    exact rstep_bad_few0 cA cC ins V P s vA sA pA nA vC sC pC nC gA gC gl hr0 hv hs hp hn h3 n hnL 10 a b hop 2 pops_10 (by decide) (by omega)
  · obtain ⟨xs, y, x, hst⟩ := stack_split2 s.stack hst1
    have hl : s.stack.length = xs.length + 1 + 1 := by rw [hst]; simp
    have h4 := hi.s4
    have e1 : s.stack.getLastD 0 = x := by rw [hst]; simp
    have e3 : s.stack.dropLast.getLastD 0 = y := by rw [hst]; simp
    have e2 : s.stack.dropLast.dropLast = xs := by rw [hst]; simp
    have hs1 := hs
    rw [hl, hst] at hs1
    have e : execP gl P { s with pc := (n : Int) + 1, steps := s.steps + 1 } 10 a b = pushP { s with pc := (n : Int) + 1, steps := s.steps + 1, stack := xs } (binV 10 y x) := by
      show binaryP _ _ = _
      unfold binaryP
      rw [if_neg (show ¬ s.stack.length ≤ 1 by omega)]
      show pushP { s with pc := (n : Int) + 1, steps := s.steps + 1, stack := s.stack.dropLast.dropLast } (binV 10 (s.stack.dropLast.getLastD 0) (s.stack.getLastD 0)) = _
      rw [e1, e2, e3]
    rw [e, hl]
    refine rstep_ok10 cA cC ins V P s vA sA pA nA vC sC pC nC gA gC gl xs y x hr0 hv hs1 hp hn h3 hi.st (by omega) n hnL hnB a b hop _ ?_
    rw [st_eta s hdn]
theorem rstep_any {w : World} (cA : Option Addr) (cC : Nat) (ins : List S42) (V P : Int) (s : St) (vA sA pA nA : Option Addr) (vC sC pC nC : Nat) (gA : Option Addr) (gC : Nat) (gl : List Int) (hr0 : Kd.C k42 w cA ins.length ins) (hv : RD w (.slice vA s.vars.length vC) s.vars) (hs : RD w (.slice sA s.stack.length sC) s.stack) (hp : RD w (.slice pA s.pts.length pC) s.pts) (hn : RD w (.slice nA s.notes.length nC) s.notes) (hG : Kd.C (Kd.int .i64) w gA gl.length gl) (hi : Inv ins P s gl) :
    Calls Tryd.prog 19 #[.agg #[.slice cA ins.length cC, .int .i64 V, .int .i64 P], .agg (stC s.pc (.slice vA s.vars.length vC) (.slice sA s.stack.length sC) (.slice pA s.pts.length pC) (.slice nA s.notes.length nC) s.fin s.steps s.br false 0), .slice gA gl.length gC] w (RLeft w (stepP (insF ins) ins.length gl P s)) := by
  unfold stepP
  by_cases h3 : s.steps < 3000
  · rw [if_pos h3]
    by_cases hpc : 0 ≤ s.pc ∧ s.pc < (ins.length : Int)
    · rw [if_pos hpc]
      obtain ⟨n, hn'⟩ := Int.eq_ofNat_of_zero_le hpc.1
      have hnL : n < ins.length := by omega
      have w1 : wrap64 ((n : Int) + 1) = (n : Int) + 1 := by have := hi.nB; unfold wrap64; omega
      have w2 : wrap64 (s.steps + 1) = s.steps + 1 := by have := hi.st; unfold wrap64; omega
      rw [hn', Int.toNat_natCast, w1, w2]
      rcases hop : insF ins n with ⟨op, a, b⟩
      show Calls Tryd.prog 19 #[.agg #[.slice cA ins.length cC, .int .i64 V, .int .i64 P], .agg (stC (n : Nat) (.slice vA s.vars.length vC) (.slice sA s.stack.length sC) (.slice pA s.pts.length pC) (.slice nA s.notes.length nC) s.fin s.steps s.br false 0), .slice gA gl.length gC] w (RLeft w (if 1 ≤ op ∧ op < 18 then execP gl P { s with pc := (n : Int) + 1, steps := s.steps + 1 } op a b else .error 21))
      by_cases ho : 1 ≤ op ∧ op < 18
      · rw [if_pos ho]
        obtain ⟨k, rfl⟩ := Int.eq_ofNat_of_zero_le (show 0 ≤ op by omega)
        have hk1 : 1 ≤ k := by omega
        have hk18 : k < 18 := by omega
        clear hpc ho hn'
        match k, hk1, hk18, hop with
        | 1, _, _, hop => exact any_1 cA cC ins V P s vA sA pA nA vC sC pC nC gA gC gl hr0 hv hs hp hn hG hi h3 n hnL a b hop
        | 2, _, _, hop => exact any_2 cA cC ins V P s vA sA pA nA vC sC pC nC gA gC gl hr0 hv hs hp hn hG hi h3 n hnL a b hop
        | 3, _, _, hop => exact any_3 cA cC ins V P s vA sA pA nA vC sC pC nC gA gC gl hr0 hv hs hp hn hG hi h3 n hnL a b hop
        | 4, _, _, hop => exact any_4 cA cC ins V P s vA sA pA nA vC sC pC nC gA gC gl hr0 hv hs hp hn hG hi h3 n hnL a b hop
        | 5, _, _, hop => exact any_5 cA cC ins V P s vA sA pA nA vC sC pC nC gA gC gl hr0 hv hs hp hn hG hi h3 n hnL a b hop
        | 6, _, _, hop => exact any_6 cA cC ins V P s vA sA pA nA vC sC pC nC gA gC gl hr0 hv hs hp hn hG hi h3 n hnL a b hop
        | 7, _, _, hop => exact any_7 cA cC ins V P s vA sA pA nA vC sC pC nC gA gC gl hr0 hv hs hp hn hG hi h3 n hnL a b hop
        | 8, _, _, hop => exact any_8 cA cC ins V P s vA sA pA nA vC sC pC nC gA gC gl hr0 hv hs hp hn hG hi h3 n hnL a b hop
        | 9, _, _, hop => exact any_9 cA cC ins V P s vA sA pA nA vC sC pC nC gA gC gl hr0 hv hs hp hn hG hi h3 n hnL a b hop
        | 10, _, _, hop => exact any_10 cA cC ins V P s vA sA pA nA vC sC pC nC gA gC gl hr0 hv hs hp hn hG hi h3 n hnL a b hop
        | 11, _, _, hop => exact any_11 cA cC ins V P s vA sA pA nA vC sC pC nC gA gC gl hr0 hv hs hp hn hG hi h3 n hnL a b hop
        | 12, _, _, hop => exact any_12 cA cC ins V P s vA sA pA nA vC sC pC nC gA gC gl hr0 hv hs hp hn hG hi h3 n hnL a b hop
        | 13, _, _, hop => exact any_13 cA cC ins V P s vA sA pA nA vC sC pC nC gA gC gl hr0 hv hs hp hn hG hi h3 n hnL a b hop
        | 14, _, _, hop => exact any_14 cA cC ins V P s vA sA pA nA vC sC pC nC gA gC gl hr0 hv hs hp hn hG hi h3 n hnL a b hop
        | 15, _, _, hop => exact any_15 cA cC ins V P s vA sA pA nA vC sC pC nC gA gC gl hr0 hv hs hp hn hG hi h3 n hnL a b hop
        | 16, _, _, hop => exact any_16 cA cC ins V P s vA sA pA nA vC sC pC nC gA gC gl hr0 hv hs hp hn hG hi h3 n hnL a b hop
        | 17, _, _, hop => exact any_17 cA cC ins V P s vA sA pA nA vC sC pC nC gA gC gl hr0 hv hs hp hn hG hi h3 n hnL a b hop
        | n + 18, _, h, _ => exact absurd h (by omega)
      · rw [if_neg ho]
        exact rstep_bad_op cA cC ins V P s vA sA pA nA vC sC pC nC gA gC gl hr0 hv hs hp hn h3 n hnL op a b hop ho
    · rw [if_neg hpc]
      exact rstep_pc cA cC ins V P s vA sA pA nA vC sC pC nC gA gC gl hr0 hv hs hp hn h3 hpc
  · rw [if_neg h3]
    exact rstep_fuel cA cC ins V P s vA sA pA nA vC sC pC nC gA gC gl hr0 hv hs hp hn h3
end Go.Proofs.YtbgfkepnlpgagaaDoor.P
