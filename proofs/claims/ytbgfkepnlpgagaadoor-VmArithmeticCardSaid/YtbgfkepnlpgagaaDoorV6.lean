/- The vm's instructions note and branch. -/
import Derived.Test.YtbgfkepnlpgagaaDoorV5
namespace Go.Proofs.YtbgfkepnlpgagaaDoor.P
open Go.RowKit Go.Proofs.YtbgfkepnlpgagaaDoorW.PrintWords Go.Proofs.YtbgfkepnlpgagaaDoorW.PrintLast Go.Proofs.YtbgfkepnlpgagaaDoorW.PrintMore
attribute [local go_sem] max2_int min2_int max_two min_two max_three min_three max_four min_four
set_option linter.unusedVariables false
set_option linter.unusedSimpArgs false
section
variable {P : Program} {ops : Array Oper} {Q : Exit → Act → World → Prop}
/-- A call of a Go function that panics, in a region that draws. -/
theorem dies_ {oi : Oper} {N : Option Tmp} {a : Act} {w : World} {K : Act → World → Prop} {f : FuncId} {fn : Func} {xs : Array Operand} {ts : Array TypeId} (hf : P.funcs[f]? = some fn) (hname : (fn.name == "runtime.NumGoroutine") = false) (hb : fn.body.isSome = true) (args : Array Value)
    (hw : Region.wanted oi (yielded ops a.tmps) = true) (hop : oi.op = .call { callee := .value (.func f), args := xs, argTypes := ts }) (hargs : xs.map a.eval = args)
    (h : Calls P f args w fun e w' => ∃ ch, e = .panicked ch ∧ Q (.panic ch) a w') : if Region.wanted oi (yielded ops a.tmps) = true then Oper.wp P oi a w K Q else K (a.put N undef) w := by
  have he := enters_ hf hname hb args w
  have hrun : (execOp a.eval oi).run P w = .ok (.enter f args) w := by
    unfold execOp
    simp [hop, resolve, Deferred.ofValue, invoke, Act.eval, hargs, he]
  rw [if_pos hw]
  unfold Oper.wp
  rw [hrun, Oper.upon_enter]
  refine h.mono fun e w'' hh => ?_
  obtain ⟨ch, rfl, hq⟩ := hh
  exact hq
end
theorem Mach.grownN {W w1 : World} {base g : Nat} {c : Co} {s : St} {q : Vs} (h : Mach W base g c s q) {v : Value} (hgr : W.grownBy w1 v.ownBlock) (hn : ∀ k, v.ownBlock = some k → k ≠ g) (h1 : Ap q.v v) (h2 : Ap q.p v) (h3 : Ap q.s v) (xs : List Int) {v1 : Value}
    (ho : w1.ownsRow base 3 1 v1 xs.length (n64 xs)) (a1 : Ap q.v v1) (a2 : Ap q.p v1) (a3 : Ap q.s v1) : Mach (w1.setCell ⟨g, 9, none⟩ v1) base g c { s with notes := xs } { q with n := v1 } := by
  have hb : w1.heap[g]? = _ := (hgr.block g (blk_lt h.blk) (fun e => hn g e.symm rfl)).trans h.blk
  have hm : ∀ {u n ys}, Ap u v → W.ownsRow base 3 1 u n ys → w1.ownsRow base 3 1 u n ys := fun {u n ys} ha hr => own_move hr (fun k hk => hgr.block k (own_lt hr k hk) (fun e => ha k hk e.symm))
  have hf : ∀ {u n ys}, w1.ownsRow base 3 1 u n ys → (w1.setCell ⟨g, 9, none⟩ v1).ownsRow base 3 1 u n ys := fun {u n ys} hr => own_far hr (own_ne hb (by decide) hr)
  exact ⟨blk_put hb 9 v1 rfl, h.low, hf (hm h1 h.rv), hf (hm h3 h.rs), hf (hm h2 h.rp), hf ho, h.vs, h.vp, a1, h.sp, a3, a2⟩
def note53.T1 : Bool × List (List Nat × List Nat) := (true, [([], []), ([], []), ([1], [1]), ([2], [2]), ([3], [3]), ([4], [4]), ([], []), ([6], [6]), ([7], [7]), ([5, 8, 7], [5, 8]), ([0, 0, 1, 2, 3, 4, 5, 6, 7, 8, 9], [0]), ([10, 0, 1, 2, 3, 4, 5, 6, 7, 8, 9], [10]), ([11, 0, 1, 2, 3, 4, 5, 6, 7, 8, 9], [11]), ([12, 9, 9, 0, 1, 2, 3, 4, 5, 6, 7, 8, 9], [9, 12])])
def note53.B1 : List Nat := [0, 0, 2, 6, 14, 30, 0, 64, 192, 510, 1023, 2047, 4095, 8191]
theorem note53.tab1 : rtab .any (opsOf Tryd.f53 1) = note53.T1 := by kernel_rfl
theorem note53.bits1 : waitsOk note53.T1.2 note53.B1 = true := by kernel_rfl
def noteP (s : St) : Except Int St := if s.stack = [] then .error 21 else .ok { s with notes := s.notes ++ [s.stack.getLastD 0], stack := s.stack.dropLast }
set_option maxRecDepth 100000 in
theorem note_any {W : World} {base g : Nat} {c : Co} {s : St} {q : Vs} (h : Mach W base g c s q) (h400 : s.stack.length ≤ 400) (hn : s.notes.length ≤ 4000) (op a b : Int) :
    Calls Tryd.prog 53 #[.pointer (some ⟨g, 0, none⟩), insV op a b] W (Left_ base g c W (noteP s)) := by
  unfold noteP
  have hb := h.base_le
  have HB := Lib.hid (((Below.refl base W).alloc hb (.cells #[.int .i64 op, .int .i64 a, .int .i64 b] 42)).drew)
  have HM := Lib.hid ((h.alloc (.cells #[.int .i64 op, .int .i64 a, .int .i64 b] 42)).drew)
  obtain ⟨A, cap, hqn, hcap, _⟩ := own_slice h.rn
  have k9d : (W.alloc (.cells #[.int .i64 op, .int .i64 a, .int .i64 b] 42)).drew.cell? ⟨g, 9, none⟩ = some (.slice A s.notes.length cap) := (HM.out.cell 9 rfl).trans (by rw [← hqn]; rfl)
  rcases stack_split s.stack with hs | ⟨xs, x, hs⟩
  · rw [if_pos hs]
    have HS := Lib.hid hs
    clear hs h
    go_enter Tryd.func53, Tryd.ntmps53
    go_upto_region 1 with fail
    refine start_ (n := 14) (S := fun w' => w'.cell? ⟨g, 9, none⟩ = some (.slice A s.notes.length cap)) (ds := [13]) #[false, false, false, false, false, false, false, false, false, false, false, false, false, false] (by kernel_rfl) rfl rfl k9d (fun hHeld => ?_)
    refine with_tabW note53.tab1 note53.bits1 (fun HT_ HW_ => ?_)
    generalize hwd : (W.alloc (.cells #[.int .i64 op, .int .i64 a, .int .i64 b] 42)).drew = w1 at HM HB k9d hHeld ⊢
    refine pure_ (i := 0) (N := some 4) (v := ?_) (a' := ?_) #[true, false, false, false, false, false, false, false, false, false, false, false, false, false] rfl rfl (any_of HT_.out (by kernel_rfl)) (fun _ _ _ h => h) (Or.inl ⟨by rfl, ?_⟩) ?_ ?_
    rotate_left
    · intro w'
      go_simp
      first | done | (with_reducible rfl)
    rotate_left
    · simp only [Act.put, List.setIfInBounds_toArray, List.set_cons_zero, List.set_cons_succ, i64_w, i32_w]
      rfl
    refine pure_ (i := 1) (N := some 5) (v := ?_) (a' := ?_) #[true, true, false, false, false, false, false, false, false, false, false, false, false, false] rfl rfl (any_of HT_.out (by kernel_rfl)) (fun _ _ _ h => h) (Or.inl ⟨by rfl, ?_⟩) ?_ ?_
    rotate_left
    · intro w'
      go_simp
      first | done | (with_reducible rfl)
    rotate_left
    · simp only [Act.put, List.setIfInBounds_toArray, List.set_cons_zero, List.set_cons_succ, i64_w, i32_w]
      rfl
    refine pure_ (i := 2) (N := some 6) (v := ?_) (a' := ?_) #[true, true, true, false, false, false, false, false, false, false, false, false, false, false] rfl rfl (any_of HT_.out (by kernel_rfl)) (fun _ _ _ h => h) (Or.inl ⟨by rfl, ?_⟩) ?_ ?_
    rotate_left
    · intro w'
      go_simp
      first | done | (with_reducible rfl)
    rotate_left
    · simp only [Act.put, List.setIfInBounds_toArray, List.set_cons_zero, List.set_cons_succ, i64_w, i32_w]
      rfl
    refine pure_ (i := 3) (N := some 7) (v := ?_) (a' := ?_) #[true, true, true, true, false, false, false, false, false, false, false, false, false, false] rfl rfl (any_of HT_.out (by kernel_rfl)) (fun _ _ _ h => h) (Or.inl ⟨by rfl, ?_⟩) ?_ ?_
    rotate_left
    · intro w'
      go_simp
      first | done | (with_reducible rfl)
    rotate_left
    · simp only [Act.put, List.setIfInBounds_toArray, List.set_cons_zero, List.set_cons_succ, i64_w, i32_w]
      rfl
    refine pure_ (i := 4) (N := some 8) (v := ?_) (a' := ?_) #[true, true, true, true, true, false, false, false, false, false, false, false, false, false] rfl rfl (any_of HT_.out (by kernel_rfl)) (fun _ _ _ h => h) (Or.inl ⟨by rfl, ?_⟩) ?_ ?_
    rotate_left
    · intro w'
      go_simp
      first | done | (with_reducible rfl)
    rotate_left
    · simp only [Act.put, List.setIfInBounds_toArray, List.set_cons_zero, List.set_cons_succ, i64_w, i32_w]
      rfl
    refine pure_ (i := 6) (N := some 10) (v := ?_) (a' := ?_) #[true, true, true, true, true, false, true, false, false, false, false, false, false, false] rfl rfl (any_of HT_.out (by kernel_rfl)) (fun _ _ _ h => h) (Or.inl ⟨by rfl, ?_⟩) ?_ ?_
    rotate_left
    · intro w'
      go_simp
      first | done | (with_reducible rfl)
    rotate_left
    · simp only [Act.put, List.setIfInBounds_toArray, List.set_cons_zero, List.set_cons_succ, i64_w, i32_w]
      rfl
    refine take_ (i := 5) (N := some 9) (v := ?_) (a' := ?_) #[true, true, true, true, true, true, true, false, false, false, false, false, false, false] rfl rfl (take_ofW HT_.out HW_.out (by kernel_rfl)) (fun _ _ _ h => h) (Or.inl ⟨by rfl, ?_⟩) hHeld ?_ ?_
    rotate_left
    · rintro w' s0
      go_simp
      first | done | (with_reducible rfl)
    rotate_left
    · simp only [Act.put, List.setIfInBounds_toArray, List.set_cons_zero, List.set_cons_succ, i64_w, i32_w]
      rfl
    refine one_ (i := 7) (N := some 11) #[true, true, true, true, true, true, true, true, false, false, false, false, false, false] rfl rfl (one_of HT_.out (by kernel_rfl)) (by decide) (fun K hK => ?_)
    refine dies_ Tryd.func59 (by kernel_rfl) rfl #[.pointer (some ⟨g, 0, none⟩)] (by rfl) rfl (by (try simp only [List.map_toArray, List.map_cons, List.map_nil]); first | done | rfl) ?_
    refine (pop_no HM.out HS.out).mono ?_
    rintro e w2 ⟨rfl, rfl⟩
    exact ⟨_, rfl, rfl, rfl, HB.out⟩
  · rw [if_neg (by rw [hs]; simp)]
    have e1 : s.stack.getLastD 0 = x := by rw [hs]; simp
    have e2 : s.stack.dropLast = xs := by rw [hs]; simp
    rw [e1, e2]
    have HS := Lib.hid hs
    clear hs h e1 e2
    go_enter Tryd.func53, Tryd.ntmps53
    go_upto_region 1 with fail
    refine start_ (n := 14) (S := fun w' => w'.cell? ⟨g, 9, none⟩ = some (.slice A s.notes.length cap)) (ds := [13]) #[false, false, false, false, false, false, false, false, false, false, false, false, false, false] (by kernel_rfl) rfl rfl k9d (fun hHeld => ?_)
    refine with_tabW note53.tab1 note53.bits1 (fun HT_ HW_ => ?_)
    generalize hwd : (W.alloc (.cells #[.int .i64 op, .int .i64 a, .int .i64 b] 42)).drew = w1 at HM HB k9d hHeld ⊢
    refine pure_ (i := 0) (N := some 4) (v := ?_) (a' := ?_) #[true, false, false, false, false, false, false, false, false, false, false, false, false, false] rfl rfl (any_of HT_.out (by kernel_rfl)) (fun _ _ _ h => h) (Or.inl ⟨by rfl, ?_⟩) ?_ ?_
    rotate_left
    · intro w'
      go_simp
      first | done | (with_reducible rfl)
    rotate_left
    · simp only [Act.put, List.setIfInBounds_toArray, List.set_cons_zero, List.set_cons_succ, i64_w, i32_w]
      rfl
    refine pure_ (i := 1) (N := some 5) (v := ?_) (a' := ?_) #[true, true, false, false, false, false, false, false, false, false, false, false, false, false] rfl rfl (any_of HT_.out (by kernel_rfl)) (fun _ _ _ h => h) (Or.inl ⟨by rfl, ?_⟩) ?_ ?_
    rotate_left
    · intro w'
      go_simp
      first | done | (with_reducible rfl)
    rotate_left
    · simp only [Act.put, List.setIfInBounds_toArray, List.set_cons_zero, List.set_cons_succ, i64_w, i32_w]
      rfl
    refine pure_ (i := 2) (N := some 6) (v := ?_) (a' := ?_) #[true, true, true, false, false, false, false, false, false, false, false, false, false, false] rfl rfl (any_of HT_.out (by kernel_rfl)) (fun _ _ _ h => h) (Or.inl ⟨by rfl, ?_⟩) ?_ ?_
    rotate_left
    · intro w'
      go_simp
      first | done | (with_reducible rfl)
    rotate_left
    · simp only [Act.put, List.setIfInBounds_toArray, List.set_cons_zero, List.set_cons_succ, i64_w, i32_w]
      rfl
    refine pure_ (i := 3) (N := some 7) (v := ?_) (a' := ?_) #[true, true, true, true, false, false, false, false, false, false, false, false, false, false] rfl rfl (any_of HT_.out (by kernel_rfl)) (fun _ _ _ h => h) (Or.inl ⟨by rfl, ?_⟩) ?_ ?_
    rotate_left
    · intro w'
      go_simp
      first | done | (with_reducible rfl)
    rotate_left
    · simp only [Act.put, List.setIfInBounds_toArray, List.set_cons_zero, List.set_cons_succ, i64_w, i32_w]
      rfl
    refine pure_ (i := 4) (N := some 8) (v := ?_) (a' := ?_) #[true, true, true, true, true, false, false, false, false, false, false, false, false, false] rfl rfl (any_of HT_.out (by kernel_rfl)) (fun _ _ _ h => h) (Or.inl ⟨by rfl, ?_⟩) ?_ ?_
    rotate_left
    · intro w'
      go_simp
      first | done | (with_reducible rfl)
    rotate_left
    · simp only [Act.put, List.setIfInBounds_toArray, List.set_cons_zero, List.set_cons_succ, i64_w, i32_w]
      rfl
    refine pure_ (i := 6) (N := some 10) (v := ?_) (a' := ?_) #[true, true, true, true, true, false, true, false, false, false, false, false, false, false] rfl rfl (any_of HT_.out (by kernel_rfl)) (fun _ _ _ h => h) (Or.inl ⟨by rfl, ?_⟩) ?_ ?_
    rotate_left
    · intro w'
      go_simp
      first | done | (with_reducible rfl)
    rotate_left
    · simp only [Act.put, List.setIfInBounds_toArray, List.set_cons_zero, List.set_cons_succ, i64_w, i32_w]
      rfl
    refine take_ (i := 5) (N := some 9) (v := ?_) (a' := ?_) #[true, true, true, true, true, true, true, false, false, false, false, false, false, false] rfl rfl (take_ofW HT_.out HW_.out (by kernel_rfl)) (fun _ _ _ h => h) (Or.inl ⟨by rfl, ?_⟩) hHeld ?_ ?_
    rotate_left
    · rintro w' s0
      go_simp
      first | done | (with_reducible rfl)
    rotate_left
    · simp only [Act.put, List.setIfInBounds_toArray, List.set_cons_zero, List.set_cons_succ, i64_w, i32_w]
      rfl
    refine one_ (i := 7) (N := some 11) #[true, true, true, true, true, true, true, true, false, false, false, false, false, false] rfl rfl (one_of HT_.out (by kernel_rfl)) (by decide) (fun K hK => ?_)
    refine goes_ Tryd.func59 (by kernel_rfl) rfl #[.pointer (some ⟨g, 0, none⟩)] (by rfl) rfl rfl (by (try simp only [List.map_toArray, List.map_cons, List.map_nil]); first | done | rfl) ?_
    refine (pop_ok HM.out xs x HS.out h400).mono ?_
    rintro e w2 ⟨rfl, u, hm2, hB2, hk2⟩
    have HM2 := Lib.hid hm2
    have HB2 := Lib.hid (HB.out.trans hB2)
    clear hm2 hB2 hk2
    have k92 : w2.cell? ⟨g, 9, none⟩ = some (.slice A s.notes.length cap) := (HM2.out.cell 9 rfl).trans (by rw [← hqn]; rfl)
    refine ⟨_, rfl, ?_⟩
    refine hK.out _ _ k92 (fun hHeld => ?_)
    clear hK K
    refine norm_ (a' := ?_) ?_ ?_
    rotate_left
    · show Act.put _ (some 11) _ = _
      simp only [Act.put, List.setIfInBounds_toArray, List.set_cons_zero, List.set_cons_succ, i64_w, i32_w]
      rfl
    have k93 : ∀ o, (w2.alloc o).cell? ⟨g, 9, none⟩ = some (.slice A s.notes.length cap) := fun o => ((HM2.out.alloc o).cell 9 rfl).trans (by rw [← hqn]; rfl)
    refine one_ (i := 8) (N := some 12) #[true, true, true, true, true, true, true, true, true, false, false, false, false, false] rfl rfl (one_of HT_.out (by kernel_rfl)) (by decide) (fun K hK => ?_)
    refine value_ (w1 := ?_) (v := ?_) (by rfl) rfl ?_ ?_
    rotate_left 2
    · go_simp
      constructor
      · rfl
      · rfl
    refine hK.out _ _ (k93 _) (fun hHeld => ?_)
    clear hK K
    refine norm_ (a' := ?_) ?_ ?_
    rotate_left
    · show Act.put _ (some 12) _ = _
      simp only [Act.put, List.setIfInBounds_toArray, List.set_cons_zero, List.set_cons_succ, i64_w, i32_w]
      rfl
    refine one_ (i := 9) (N := some 13) #[true, true, true, true, true, true, true, true, true, true, false, false, false, false] rfl rfl (one_of HT_.out (by kernel_rfl)) (by decide) (fun K hK => ?_)
    refine step_append_cells (w0 := w2) base (by rfl) (.tmp 9) (.tmp 12) 25 3 (.int .i64 0) 1 8 rfl Tryd.underlying25 info3 rfl (by decide) (by decide) (.slice A s.notes.length cap) s.notes.length (n64 s.notes) [.int .i64 x] rfl rfl rfl ?c1 ?aO (Below.refl _ _) HM2.out.base_le (by omega) ?_
    (case c1 => intro z hz; rw [List.mem_singleton.1 hz]; rfl)
    (case aO => have h9 := HM2.out.rn; rwa [show ({ q with s := u } : Vs).n = q.n from rfl, hqn] at h9)
    intro v1 w4 hv1 hb4 hg4 hat4
    obtain ⟨A4, cap4, hv4, _, _⟩ := own_slice hv1
    subst hv4
    have HV1 := Lib.hid hv1
    have HB4 := Lib.hid hb4
    have HG4 := Lib.hid hg4
    have HAT := Lib.hid hat4
    clear hv1 hb4 hg4 hat4
    have hgn : ∀ k, (Value.slice A s.notes.length cap).ownBlock = some k → k ≠ g := by rw [← hqn]; exact own_ne HM2.out.blk (by decide) HM2.out.rn
    have hbk4 := (HG4.out.block g (blk_lt HM2.out.blk) (fun e => hgn g e.symm rfl)).trans HM2.out.blk
    have k94 : w4.cell? ⟨g, 9, none⟩ = some (.slice A s.notes.length cap) := (blk_cell hbk4 9).trans (by rw [← hqn]; rfl)
    have hz4 : w4.frozen? ⟨g, 9, none⟩ = false := blk_frozen hbk4 9
    refine hK.out _ _ k94 (fun hHeld => ?_)
    clear hK K
    refine norm_ (a' := ?_) ?_ ?_
    rotate_left
    · show Act.put _ (some 13) _ = _
      simp only [Act.put, List.setIfInBounds_toArray, List.set_cons_zero, List.set_cons_succ, i64_w, i32_w]
      rfl
    refine pure_ (i := 10) (N := some 14) (v := ?_) (a' := ?_) #[true, true, true, true, true, true, true, true, true, true, true, false, false, false] rfl rfl (any_of HT_.out (by kernel_rfl)) (fun _ _ _ h => h) (Or.inl ⟨by rfl, ?_⟩) ?_ ?_
    rotate_left
    · intro w'
      go_simp
      first | done | (with_reducible rfl)
    rotate_left
    · simp only [Act.put, List.setIfInBounds_toArray, List.set_cons_zero, List.set_cons_succ, i64_w, i32_w]
      rfl
    refine pure_ (i := 11) (N := some 15) (v := ?_) (a' := ?_) #[true, true, true, true, true, true, true, true, true, true, true, true, false, false] rfl rfl (any_of HT_.out (by kernel_rfl)) (fun _ _ _ h => h) (Or.inl ⟨by rfl, ?_⟩) ?_ ?_
    rotate_left
    · intro w'
      go_simp
      first | done | (with_reducible rfl)
    rotate_left
    · simp only [Act.put, List.setIfInBounds_toArray, List.set_cons_zero, List.set_cons_succ, i64_w, i32_w]
      rfl
    refine pure_ (i := 12) (N := some 16) (v := ?_) (a' := ?_) #[true, true, true, true, true, true, true, true, true, true, true, true, true, false] rfl rfl (any_of HT_.out (by kernel_rfl)) (fun _ _ _ h => h) (Or.inl ⟨by rfl, ?_⟩) ?_ ?_
    rotate_left
    · intro w'
      go_simp
      first | done | (with_reducible rfl)
    rotate_left
    · simp only [Act.put, List.setIfInBounds_toArray, List.set_cons_zero, List.set_cons_succ, i64_w, i32_w]
      rfl
    clear hbk4 hgn
    refine last_ (i := 13) (N := none) #[true, true, true, true, true, true, true, true, true, true, true, true, true, true] rfl rfl (one_of HT_.out (by kernel_rfl)) (by decide) (fun K hK => ?_)
    refine skip_ (w1 := ?_) (by rfl) rfl ?_ ?_
    rotate_left
    · go_simp
      rfl
    refine hK.out _ _ ?_
    clear hK K
    refine done_ (done_of HT_.out (by kernel_rfl)) ?_
    go_wp2_with fail
    go_end0
    have h := HM2.out
    refine ⟨rfl, _, h.grownN (v := q.n) (by rw [hqn]; exact HG4.out) (own_ne h.blk (by decide) h.rn) h.vn h.pn h.sn (s.notes ++ [x]) (v1 := .slice A4 (s.notes.length + 1) cap4) ?_ (ap_append h.vn h.rv (by rw [hqn]; exact HAT.out)) (ap_append h.pn h.rp (by rw [hqn]; exact HAT.out)) (ap_append h.sn h.rs (by rw [hqn]; exact HAT.out)), (HB2.out.trans HB4.out).setCell (p := ⟨g, 9, none⟩) h.low _⟩
    rw [List.length_append]
    unfold n64 at HV1 ⊢
    rw [List.map_append]
    exact HV1.out
end Go.Proofs.YtbgfkepnlpgagaaDoor.P
