/- Some small texts of the machine's walk, in one. -/
import Derived.Test.YtbgfkepnlpgagaaDoorV8
section
namespace Go.Proofs.YtbgfkepnlpgagaaDoor.P
open Go.RowKit Go.Proofs.YtbgfkepnlpgagaaDoorW.PrintWords Go.Proofs.YtbgfkepnlpgagaaDoorW.PrintLast Go.Proofs.YtbgfkepnlpgagaaDoorW.PrintMore
attribute [local go_sem] max2_int min2_int max_two min_two max_three min_three max_four min_four
set_option linter.unusedVariables false
set_option linter.unusedSimpArgs false

def branchP (gl : List Int) (cP : Int) (s : St) (a b : Int) : Except Int St :=
  if s.stack = [] then .error 21 else if 0 ≤ b ∧ b < cP then
    .ok (if (s.stack.getLastD 0 != 0) != (gl.any fun y => s.br == y) then { s with stack := s.stack.dropLast, br := wrap64 (s.br + 1), pts := s.pts.set b.toNat (orV (s.pts.getD b.toNat 0) 1) }
      else { s with stack := s.stack.dropLast, br := wrap64 (s.br + 1), pts := s.pts.set b.toNat (orV (s.pts.getD b.toNat 0) 2), pc := a })
  else .error 21
set_option maxRecDepth 100000 in
theorem branch_none {W : World} {base g : Nat} {c : Co} {s : St} {q : Vs} (h : Mach W base g c s q) (hs : s.stack = []) (op a b : Int) :
    Calls Tryd.prog 51 #[.pointer (some ⟨g, 0, none⟩), insV op a b] W fun e w' => e = .panicked (fail 21) ∧ Below base W w' := by
  have hbl := h.base_le
  have HB := Lib.hid ((Below.refl base W).alloc hbl (.cells #[.int .i64 op, .int .i64 a, .int .i64 b] 42))
  have HM := Lib.hid (h.alloc (.cells #[.int .i64 op, .int .i64 a, .int .i64 b] 42))
  have HS := Lib.hid hs
  clear h hs
  go_enter Tryd.func51, Tryd.ntmps51
  go_wp2_with (go_at_call 59; refine (pop_no HM.out HS.out).mono ?_; rintro e w' ⟨rfl, rfl⟩)
  exact ⟨rfl, rfl, HB.out⟩
theorem branch_any {W : World} {base g : Nat} {c : Co} {s : St} {q : Vs} (h : Mach W base g c s q) (h400 : s.stack.length ≤ 400) (op a b : Int) (gl : List Int) (hgl : c.gL = gl.length) (hgl2 : gl.length ≤ 4611686018427387904)
    (hGL : ∀ W', Below base W W' → (Kd.int .i64).C W' c.gA c.gL gl) (hp : (s.pts.length : Int) = c.cP) :
    Calls Tryd.prog 51 #[.pointer (some ⟨g, 0, none⟩), insV op a b] W (Left_ base g c W (branchP gl c.cP s a b)) := by
  unfold branchP
  rcases stack_split s.stack with hs | ⟨xs, x, hs⟩
  · rw [if_pos hs]
    exact branch_none h hs op a b
  · rw [if_neg (by rw [hs]; simp)]
    have e1 : s.stack.getLastD 0 = x := by rw [hs]; simp
    have e2 : s.stack.dropLast = xs := by rw [hs]; simp
    rw [e1, e2]
    by_cases hb : 0 ≤ b ∧ b < c.cP
    · rw [if_pos hb]
      obtain ⟨j, rfl⟩ := Int.eq_ofNat_of_zero_le hb.1
      have hj : j < s.pts.length := by omega
      rw [Int.toNat_natCast, List.getD_eq_getElem?_getD, List.getElem?_eq_getElem hj, Option.getD_some]
      exact branch_ok h h400 xs x hs op a j gl hgl hgl2 hGL hp hj
    · rw [if_neg hb]
      exact branch_bad h h400 xs x hs op a b hb
end Go.Proofs.YtbgfkepnlpgagaaDoor.P
end
section
namespace Go.Proofs.YtbgfkepnlpgagaaDoor.P
open Go.RowKit Go.Proofs.YtbgfkepnlpgagaaDoorW.PrintWords Go.Proofs.YtbgfkepnlpgagaaDoorW.PrintLast Go.Proofs.YtbgfkepnlpgagaaDoorW.PrintMore
attribute [local go_sem] max2_int min2_int max_two min_two max_three min_three max_four min_four
set_option linter.unusedVariables false
set_option linter.unusedSimpArgs false

/-- Which function the table names at an operation. -/
def tabFn (k : Nat) : Nat := if k = 1 then 46 else if k = 2 then 47 else if k = 3 then 48 else if k = 4 then 49 else if k = 5 then 49 else if k = 6 then 49 else if k = 7 then 49 else if k = 8 then 49 else if k = 9 then 49 else if k = 10 then 49 else if k = 11 then 50 else if k = 12 then 51 else if k = 13 then 52 else if k = 14 then 53 else if k = 15 then 54 else if k = 16 then 54 else if k = 17 then 55 else 0
/-- What an instruction does. -/
def execP (gl : List Int) (cP : Int) (s : St) (op a b : Int) : Except Int St :=
  if op = 1 then pushP s (a % 65536) else if op = 2 then loadP s a else if op = 3 then storeP s a else if op = 11 then notP s else if op = 12 then branchP gl cP s a b else if op = 13 then .ok { s with pc := a } else
    if op = 14 then noteP s else if op = 15 ∨ op = 16 then .ok (endP s op a) else if op = 17 then loopP s a b else binaryP s op
theorem exec_any {W : World} {base g : Nat} {c : Co} {s : St} {q : Vs} (h : Mach W base g c s q) (h400 : s.stack.length ≤ 400) (hn : s.notes.length ≤ 4000) (k : Nat) (h1 : 1 ≤ k) (h18 : k < 18) (a b : Int) (gl : List Int) (hgl : c.gL = gl.length) (hgl2 : gl.length ≤ 4611686018427387904)
    (hGL : ∀ W', Below base W W' → (Kd.int .i64).C W' c.gA c.gL gl) (hp : (s.pts.length : Int) = c.cP) :
    Calls Tryd.prog (tabFn k) #[.pointer (some ⟨g, 0, none⟩), insV k a b] W (Left_ base g c W (execP gl c.cP s k a b)) := by
  match k, h1, h18 with
  | 1, _, _ => exact constant_any h 1 a b
  | 2, _, _ => exact load_any h 2 a b
  | 3, _, _ => exact store_any h h400 3 a b
  | 4, _, _ => exact binary_any h h400 4 a b (by decide)
  | 5, _, _ => exact binary_any h h400 5 a b (by decide)
  | 6, _, _ => exact binary_any h h400 6 a b (by decide)
  | 7, _, _ => exact binary_any h h400 7 a b (by decide)
  | 8, _, _ => exact binary_any h h400 8 a b (by decide)
  | 9, _, _ => exact binary_any h h400 9 a b (by decide)
  | 10, _, _ => exact binary_any h h400 10 a b (by decide)
  | 11, _, _ => exact not_any h h400 11 a b
  | 12, _, _ => exact branch_any h h400 12 a b gl hgl hgl2 hGL hp
  | 13, _, _ => exact jump_any h 13 a b
  | 14, _, _ => exact note_any h h400 hn 14 a b
  | 15, _, _ => exact end_any h 15 a b
  | 16, _, _ => exact end_any h 16 a b
  | n + 18, _, h => exact absurd h (by omega)
  | 17, _, _ => exact loop_any h 17 a b
end Go.Proofs.YtbgfkepnlpgagaaDoor.P
end
