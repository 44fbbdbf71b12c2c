/- Run by its contract. -/
import Derived.Test.YtbgfkepnlpgagaaDoorVC
import Derived.Test.YtbgfkepnlpgagaaDoorP0
namespace Go.Proofs.YtbgfkepnlpgagaaDoor.P
open Go.RowKit Go.Proofs.YtbgfkepnlpgagaaDoorW.PrintWords Go.Proofs.YtbgfkepnlpgagaaDoorW.PrintLast Go.Proofs.YtbgfkepnlpgagaaDoorW.PrintMore
attribute [local go_sem] max2_int min2_int max_two min_two max_three min_three max_four min_four
set_option linter.unusedVariables false
set_option linter.unusedSimpArgs false
def run11.T4 : Bool × List (List Nat × List Nat) := (true, [([], []), ([], []), ([], []), ([2], [2]), ([3, 3], [3]), ([], []), ([5], [5]), ([6, 6], [6]), ([7], [7]), ([0, 1, 4, 8], [0, 1, 4, 8]), ([9], [9]), ([10, 0, 1, 2, 3, 4, 5, 6, 7, 8, 9, 10], [10])])
def run11.B4 : List Nat := [0, 0, 0, 4, 12, 0, 32, 96, 224, 511, 1023, 2047]
theorem run11.tab4 : rtab .any (opsOf Tryd.f11 4) = run11.T4 := by kernel_rfl
theorem run11.bits4 : waitsOk run11.T4.2 run11.B4 = true := by kernel_rfl
def TabW (W : World) : Prop := 0 < W.heap.size ∧ ∀ k : Nat, 1 ≤ k → k < 18 → W.cell? ⟨0, k, none⟩ = some (.func (.func (tabFn k)) #[] #[])
theorem TabW.below {W W' : World} (h : TabW W) (hb : Below W.heap.size W W') : TabW W' := ⟨Nat.lt_of_lt_of_le h.1 hb.size, fun k h1 h2 => (hb.cell (p := ⟨0, k, none⟩) h.1).trans (h.2 k h1 h2)⟩
def insF (ins : List S42) (n : Nat) : Int × Int × Int := ((rd_T42 ins n).f0, (rd_T42 ins n).f1, (rd_T42 ins n).f2)
theorem insAt {W : World} {ins : List S42} {c : Co} (hL : c.cL = ins.length) (h : Kd.C k42 W c.cA ins.length ins) : InsAt W c (insF ins) := by
  intro j hj
  obtain ⟨ad, e, h0, h1, h2⟩ := at_T42 h (j : Int) (by omega) (by omega)
  rw [Int.toNat_natCast] at h0 h1 h2
  exact ⟨ad, e, h0, h1, h2⟩
def runP (f : Nat → Int × Int × Int) (L : Nat) (gl : List Int) (cP : Int) : Nat → St → Except Int St
  | 0, _ => .error 20
  | n + 1, s => if s.done then .ok s else match stepP f L gl cP s with
    | .ok s' => runP f L gl cP n s'
    | .error e => .error e
def initS (V P : Int) (inputs : List Int) : St := { pc := 0, vars := inputs ++ List.replicate (V.toNat - inputs.length) 0, stack := [], br := 0, pts := List.replicate P.toNat 0, notes := [], fin := 0, steps := 0, done := false }
def endR : Except Int St → List Int × List Int × Int × Int × Int
  | .ok s => (s.pts, s.notes, s.fin, s.steps, 0)
  | .error e => ([], [], 0, 0, e)
def vm_Run.f (l0_0 : List S42) (a0_1 a0_2 : Int) (l1 l2 : List Int) : Option (List Int × List Int × Int × Int × Int) :=
  if l1.length ≤ 4611686018427387904 ∧ l2.length ≤ 4611686018427387904 then
    some (if validP a0_1 a0_2 l1 then endR (runP (insF l0_0) l0_0.length l2 a0_2 3002 (initS a0_1 a0_2 l1)) else ([], [], 0, 0, 1))
  else none
theorem results11 (o er : Nat) (v0 v1 v2 v3 v4 : Value) (tmps : Array Value) (w : World) (h6 : tmps[6]? = some (.pointer (some ⟨o, 0, none⟩))) (h7 : tmps[7]? = some (.pointer (some ⟨er, 0, none⟩)))
    (ho : w.heap[o]? = some (.cells #[v0, v1, v2, v3] 29 (0, 0))) (he : w.heap[er]? = some (.cells #[v4] 30 (0, 0))) : (results Tryd.f11 tmps).run Tryd.prog w = .ok (.tuple #[.agg #[v0, v1, v2, v3], v4]) w := by
  have c0 : w.cell? ⟨o, 0, none⟩ = some v0 := (blk_cell ho 0).trans rfl
  have c1 : w.cell? ⟨o, 1, none⟩ = some v1 := (blk_cell ho 1).trans rfl
  have c2 : w.cell? ⟨o, 2, none⟩ = some v2 := (blk_cell ho 2).trans rfl
  have c3 : w.cell? ⟨o, 3, none⟩ = some v3 := (blk_cell ho 3).trans rfl
  have c4 : w.cell? ⟨er, 0, none⟩ = some v4 := (blk_cell he 0).trans rfl
  simp [results, Tryd.results11, go_sem, h6, h7, c0, c1, c2, c3, c4]
/-- The world in which valid is called. -/
theorem pre_world (w : World) (oc oo oe : Obj) : (((w.alloc oc).alloc oo).alloc oe).heap[w.heap.size + 1]? = some oo ∧ (((w.alloc oc).alloc oo).alloc oe).heap[w.heap.size + 1 + 1]? = some oe ∧ (((w.alloc oc).alloc oo).alloc oe).heap[w.heap.size]? = some oc ∧ (((w.alloc oc).alloc oo).alloc oe).heap.size = w.heap.size + 3 ∧ Below w.heap.size w (((w.alloc oc).alloc oo).alloc oe) := by
  have s1 : (w.alloc oc).heap.size = w.heap.size + 1 := World.size_alloc _ _
  have s2 : ((w.alloc oc).alloc oo).heap.size = w.heap.size + 1 + 1 := by rw [← s1]; exact World.size_alloc _ _
  have s3 : (((w.alloc oc).alloc oo).alloc oe).heap.size = w.heap.size + 3 := by rw [show w.heap.size + 3 = w.heap.size + 1 + 1 + 1 by omega, ← s2]; exact World.size_alloc _ _
  refine ⟨?_, ?_, ?_, s3, ?_⟩
  · rw [Below.heap_alloc _ _ _ (by omega), ← s1]; exact heap_alloc_new _ _
  · rw [← s2]; exact heap_alloc_new _ _
  · rw [Below.heap_alloc _ _ _ (by omega), Below.heap_alloc _ _ _ (by omega)]; exact heap_alloc_new _ _
  · exact (((Below.refl _ _).alloc (Nat.le_refl _) _).alloc (by omega) _).alloc (by omega) _
abbrev ocO (A : Option Addr) (n c : Nat) (V P : Int) : Obj := .cells #[.slice A n c, .int .i64 V, .int .i64 P] 24
abbrev ooO : Obj := .cells #[.slice none 0 0, .slice none 0 0, .int .i64 0, .int .i64 0] 29
abbrev oeO : Obj := .cells #[.int .i64 0] 30
set_option maxRecDepth 100000 in
set_option maxHeartbeats 4000000 in
theorem run_bad (A0_0 : Option Addr) (c0_0 : Nat) (l0_0 : List S42) (a0_1 a0_2 : Int) (A1 : Option Addr) (c1 : Nat) (l1 : List Int) (g2 : Value) (w : World) (hr1 : Kd.C (Kd.int .i64) w A1 l1.length l1) (hl1 : l1.length ≤ 4611686018427387904)
    (hv : validP a0_1 a0_2 l1 = false) :
    Calls Tryd.prog 11 #[.agg #[.slice A0_0 l0_0.length c0_0, .int .i64 a0_1, .int .i64 a0_2], .slice A1 l1.length c1, g2] w fun e w' => e = .returned (.tuple #[.agg #[.slice none 0 0, .slice none 0 0, .int .i64 0, .int .i64 0], .int .i64 1]) ∧ Below w.heap.size w w' := by
  have HR1 := Lib.hid hr1
  have HV := Lib.hid hv
  have HPRE := Lib.hid (pre_world w (ocO A0_0 l0_0.length c0_0 a0_1 a0_2) ooO oeO)
  clear hr1 hv
  go_enter_defers Tryd.func11, Tryd.ntmps11
  go_wp2_with fail
  obtain ⟨ho, he, _, hs3, hB⟩ := HPRE.out
  generalize hw3 : ((w.alloc (.cells #[.slice A0_0 l0_0.length c0_0, .int .i64 a0_1, .int .i64 a0_2] 24)).alloc (.cells #[.slice none 0 0, .slice none 0 0, .int .i64 0, .int .i64 0] 29)).alloc (.cells #[.int .i64 0] 30) = w3 at ho he hs3 hB ⊢
  clear hw3 HPRE
  refine (valid_any _ _ _ A1 c1 l1 w3 hl1 (fun w' hb => Kd.C_below HR1.out (hB.trans (hb.mono (by omega))))).mono ?_
  rintro e w4 ⟨rfl, hb⟩
  rw [HV.out]
  have ho4 := (hb.block _ (blk_lt ho)).trans ho
  have he4 := (hb.block _ (blk_lt he)).trans he
  have HB4 := Lib.hid (hB.trans (hb.mono (by omega)))
  have c0 : w4.cell? ⟨w.heap.size + 1, 0, none⟩ = some (.slice none 0 0) := (blk_cell ho4 0).trans rfl
  have c1 : w4.cell? ⟨w.heap.size + 1, 1, none⟩ = some (.slice none 0 0) := (blk_cell ho4 1).trans rfl
  have c2 : w4.cell? ⟨w.heap.size + 1, 2, none⟩ = some (.int .i64 0) := (blk_cell ho4 2).trans rfl
  have c3 : w4.cell? ⟨w.heap.size + 1, 3, none⟩ = some (.int .i64 0) := (blk_cell ho4 3).trans rfl
  have c4 : w4.cell? ⟨w.heap.size + 1 + 1, 0, none⟩ = some (.int .i64 0) := (blk_cell he4 0).trans rfl
  have z0 := blk_frozen ho4 0
  have z1 := blk_frozen ho4 1
  have z2 := blk_frozen ho4 2
  have z3 := blk_frozen ho4 3
  have z4 := blk_frozen he4 0
  clear ho he hb hB hs3
  have HO4 := Lib.hid ho4
  have HE4 := Lib.hid he4
  clear ho4 he4
  go_wp2_with fail
  refine ⟨_, results11 (w.heap.size + 1) (w.heap.size + 1 + 1) (.slice none 0 0) (.slice none 0 0) (.int .i64 0) (.int .i64 0) (.int .i64 1) _ _ rfl rfl ?_ ?_, rfl, ?_⟩
  · have h1 := blk_put HO4.out 0 (.slice none 0 0) rfl
    have h2 := blk_put h1 1 (.slice none 0 0) rfl
    have h3 := blk_put h2 2 (.int .i64 0) rfl
    have h4 := blk_put h3 3 (.int .i64 0) rfl
    exact blk_far h4 (p := ⟨w.heap.size + 1 + 1, 0, none⟩) (by simp) _
  · have h1 := blk_far HE4.out (p := ⟨w.heap.size + 1, 0, none⟩) (by simp) (.slice none 0 0)
    have h2 := blk_far h1 (p := ⟨w.heap.size + 1, 1, none⟩) (by simp) (.slice none 0 0)
    have h3 := blk_far h2 (p := ⟨w.heap.size + 1, 2, none⟩) (by simp) (.int .i64 0)
    have h4 := blk_far h3 (p := ⟨w.heap.size + 1, 3, none⟩) (by simp) (.int .i64 0)
    exact blk_put h4 0 _ rfl
  · exact (((((HB4.out).setCell (p := ⟨w.heap.size + 1, 0, none⟩) (by simp) _).setCell (p := ⟨w.heap.size + 1, 1, none⟩) (by simp) _).setCell (p := ⟨w.heap.size + 1, 2, none⟩) (by simp) _).setCell (p := ⟨w.heap.size + 1, 3, none⟩) (by simp) _).setCell (p := ⟨w.heap.size + 1 + 1, 0, none⟩) (by simp; omega) _
theorem results_put {N : Tmp} {v : Value} (h6 : N ≠ 6) (h7 : N ≠ 7) (t : Array Value) : results Tryd.f11 (t.setIfInBounds N v) = results Tryd.f11 t := by
  have e6 : (t.setIfInBounds N v)[6]? = t[6]? := by rw [Array.getElem?_setIfInBounds, if_neg h6]
  have e7 : (t.setIfInBounds N v)[7]? = t[7]? := by rw [Array.getElem?_setIfInBounds, if_neg h7]
  simp [results, Tryd.results11, Array.getD_eq_getD_getElem?, e6, e7]
theorem leaves_put {R : Ending → World → Prop} {N : Tmp} {v : Value} (h6 : N ≠ 6) (h7 : N ≠ 7) (t : Array Value) : ∀ (ds : List Deferred) (u : FrameMode) (w : World), Leaves Tryd.prog Tryd.f11 (t.setIfInBounds N v) R ds u w → Leaves Tryd.prog Tryd.f11 t R ds u w
  | [], .returning, w, h => by obtain ⟨x, h1, h2⟩ := h; exact ⟨x, by rw [← results_put h6 h7 t (v := v)]; exact h1, h2⟩
  | [], .panicking chain, w, h => h
  | [], .run, _, h => h.elim
  | d :: ds, u, w, h => by
    obtain ⟨hu, fv, cap, f, args, h1, h2, h3⟩ := h
    refine ⟨hu, fv, cap, f, args, h1, h2, h3.mono fun e u' w' he => ?_⟩
    cases e with
    | returned x => exact leaves_put h6 h7 t ds _ _ he
    | panicked ch => exact leaves_put h6 h7 t ds _ _ he
    | outgrown => exact he
theorem hq11 {K : Act → World → Prop} {R : Ending → World → Prop} {N : Tmp} {v : Value} (h6 : N ≠ 6) (h7 : N ≠ 7) : ∀ c a w, Exit.then K (bodyPostD Tryd.prog Tryd.f11 R) (.panic c) (a.put (some N) v) w → Exit.then K (bodyPostD Tryd.prog Tryd.f11 R) (.panic c) a w :=
  fun c a w h => leaves_put h6 h7 a.tmps a.defers (.panicking c) w h
/-- Both rows made. -/
def Made2 (w5 : World) (V P : Nat) (s : Nat × Nat) (w' : World) : Prop :=
  s.1 ≠ s.2 ∧ w'.ownsRow w5.heap.size 3 1 (.slice (some ⟨s.1, 0, none⟩) V V) V (n64 (List.replicate V 0)) ∧ w'.ownsRow w5.heap.size 3 1 (.slice (some ⟨s.2, 0, none⟩) P P) P (n64 (List.replicate P 0)) ∧ Below w5.heap.size w5 w'
theorem made2v (w5 : World) (V P : Nat) (hV : V ≤ 400) (hP : P ≤ 8) : Made2 w5 V P (w5.heap.size, w5.heap.size + 1) ((w5.alloc (.cells (madeCells #[.int .i64 0] V) 3)).alloc (.cells (madeCells #[.int .i64 0] P) 3)) := by
  have s1 : (w5.alloc (.cells (madeCells #[.int .i64 0] V) 3)).heap.size = w5.heap.size + 1 := World.size_alloc _ _
  refine ⟨by simp, ?_, ?_, ((Below.refl _ _).alloc (Nat.le_refl _) _).alloc (by omega) _⟩
  · have h := own_made_of (enc := Value.int .i64) (d := 0) w5 w5.heap.size 3 V (Nat.le_refl _) (by omega)
    exact own_move h (fun k hk => Below.heap_alloc _ _ _ (own_lt h k hk))
  · have h := own_made_of (enc := Value.int .i64) (d := 0) (w5.alloc (.cells (madeCells #[.int .i64 0] V) 3)) w5.heap.size 3 P (by omega) (by omega)
    rw [s1] at h
    exact h
theorem made2p (w5 : World) (V P : Nat) (hV : V ≤ 400) (hP : P ≤ 8) : Made2 w5 V P (w5.heap.size + 1, w5.heap.size) ((w5.alloc (.cells (madeCells #[.int .i64 0] P) 3)).alloc (.cells (madeCells #[.int .i64 0] V) 3)) := by
  have s1 : (w5.alloc (.cells (madeCells #[.int .i64 0] P) 3)).heap.size = w5.heap.size + 1 := World.size_alloc _ _
  refine ⟨by simp, ?_, ?_, ((Below.refl _ _).alloc (Nat.le_refl _) _).alloc (by omega) _⟩
  · have h := own_made_of (enc := Value.int .i64) (d := 0) (w5.alloc (.cells (madeCells #[.int .i64 0] P) 3)) w5.heap.size 3 V (by omega) (by omega)
    rw [s1] at h
    exact h
  · have h := own_made_of (enc := Value.int .i64) (d := 0) w5 w5.heap.size 3 P (Nat.le_refl _) (by omega)
    exact own_move h (fun k hk => Below.heap_alloc _ _ _ (own_lt h k hk))
theorem ap_nil (v : Value) (c : Nat) : Ap v (.slice none 0 c) := fun k _ h => by cases h
theorem nil_ap (v : Value) (c : Nat) : Ap (.slice none 0 c) v := fun k h _ => by cases h
def RunPost (W : World) (r : Except Int St) (e : Ending) (w' : World) : Prop :=
  ∃ v0 v1 : Value, e = .returned (.tuple #[.agg #[v0, v1, .int .i64 (endR r).2.2.1, .int .i64 (endR r).2.2.2.1], .int .i64 (endR r).2.2.2.2]) ∧ Kd.R (Kd.int .i64) 3 w' W.heap.size (fun k_ => some k_ ≠ v1.ownBlock) v0 (endR r).1 ∧ Kd.R (Kd.int .i64) 3 w' W.heap.size (fun k_ => some k_ ≠ v0.ownBlock) v1 (endR r).2.1 ∧ Below W.heap.size W w'
theorem Mach.copied {W w1 : World} {base g : Nat} {c : Co} {s : St} {q : Vs} (h : Mach W base g c s q) (hgr : W.grownBy w1 q.v.ownBlock) (xs : List Int) (ho : w1.ownsRow base 3 1 q.v xs.length (n64 xs)) : Mach w1 base g c { s with vars := xs } q :=
  ⟨(hgr.block g (blk_lt h.blk) (fun e => own_ne h.blk (by decide) h.rv g e.symm rfl)).trans h.blk, h.low, ho, own_move h.rs (fun k hk => hgr.block k (own_lt h.rs k hk) (fun e => h.vs k e.symm hk)), own_move h.rp (fun k hk => hgr.block k (own_lt h.rp k hk) (fun e => h.vp k e.symm hk)), own_move h.rn (fun k hk => hgr.block k (own_lt h.rn k hk) (fun e => h.vn k e.symm hk)), h.vs, h.vp, h.vn, h.sp, h.sn, h.pn⟩
abbrev dfr (o er : Nat) : Deferred := { target := .fn (.func 17) #[.pointer (some ⟨o, 0, none⟩), .pointer (some ⟨er, 0, none⟩)], args := #[] }
theorem door_err {w W : World} {o er : Nat} {tmps : Array Value} {code : Int} (h6 : tmps[6]? = some (.pointer (some ⟨o, 0, none⟩))) (h7 : tmps[7]? = some (.pointer (some ⟨er, 0, none⟩))) (ho : W.heap[o]? = some ooO) (he : W.heap[er]? = some oeO) (hne : o ≠ er) (hlo : w.heap.size ≤ o) (hle : w.heap.size ≤ er) (hB : Below w.heap.size w W) :
    Leaves Tryd.prog Tryd.f11 tmps (RunPost w (.error code)) [dfr o er] (.panicking (fail code)) W := by
  refine leaves_cons (f := 17) (args := #[.pointer (some ⟨o, 0, none⟩), .pointer (some ⟨er, 0, none⟩)]) (by simp) (by simp [go_sem]) ?_
  refine (caught o er _ _ _ _ _ code W ho he hne).mono ?_
  rintro e u' w' ⟨rfl, rfl, ho', he', hb⟩
  refine ⟨_, results11 o er (.slice none 0 0) (.slice none 0 0) (.int .i64 0) (.int .i64 0) (.int .i64 code) _ _ h6 h7 ho' he', .slice none 0 0, .slice none 0 0, rfl, Kd.R_nil _ _ _ _ _, Kd.R_nil _ _ _ _ _, hB.trans (hb _ hlo hle hB.size)⟩
theorem door_ok {w W : World} {o er : Nat} {tmps : Array Value} {s : St} {v0 v1 : Value} (h6 : tmps[6]? = some (.pointer (some ⟨o, 0, none⟩))) (h7 : tmps[7]? = some (.pointer (some ⟨er, 0, none⟩))) (ho : W.heap[o]? = some (.cells #[v0, v1, .int .i64 s.fin, .int .i64 s.steps] 29 (0, 0))) (he : W.heap[er]? = some oeO)
    (hr0 : W.ownsRow w.heap.size 3 1 v0 s.pts.length (n64 s.pts)) (hr1 : W.ownsRow w.heap.size 3 1 v1 s.notes.length (n64 s.notes)) (hap : Ap v0 v1) (hB : Below w.heap.size w W) :
    Leaves Tryd.prog Tryd.f11 tmps (RunPost w (.ok s)) [dfr o er] .returning W := by
  refine leaves_cons (f := 17) (args := #[.pointer (some ⟨o, 0, none⟩), .pointer (some ⟨er, 0, none⟩)]) (by simp) (by simp [go_sem]) ?_
  refine (idle o er W).mono ?_
  rintro e u' w' ⟨rfl, rfl, rfl⟩
  have hm : ∀ k, k < W.heap.size → (W.alloc (.cells #[.int .i64 0] 49)).heap[k]? = W.heap[k]? := fun k hk => Below.heap_alloc _ _ k hk
  refine ⟨_, results11 o er v0 v1 (.int .i64 s.fin) (.int .i64 s.steps) (.int .i64 0) _ _ h6 h7 ((hm o (blk_lt ho)).trans ho) ((hm er (blk_lt he)).trans he), v0, v1, rfl, Kd.R_of_own (own_move hr0 (fun k hk => hm k (own_lt hr0 k hk))) (fun k hk e => hap k hk e.symm), Kd.R_of_own (own_move hr1 (fun k hk => hm k (own_lt hr1 k hk))) (fun k hk e => hap k e.symm hk), hB.alloc hB.size _⟩
def stepsOf (g : Nat) (W : World) : Nat := match W.cell? ⟨g, 11, none⟩ with | some (.int _ n) => n.toNat | _ => 0
theorem stepsOf_eq {W : World} {base g : Nat} {c : Co} {s : St} {q : Vs} (h : Mach W base g c s q) : stepsOf g W = s.steps.toNat := by unfold stepsOf; rw [h.cell 11 rfl]; rfl
/-- The loop's relation. -/
def RunRel (w8 : World) (base g : Nat) (c : Co) (f : Nat → Int × Int × Int) (gl : List Int) (r : Except Int St) (W : World) : Prop :=
  ∃ s q, Mach W base g c s q ∧ 0 ≤ s.steps ∧ s.steps ≤ 3000 ∧ s.stack.length ≤ 400 ∧ (s.notes.length : Int) ≤ s.steps ∧ (s.pts.length : Int) = c.cP ∧ Below base w8 W ∧ runP f c.cL gl c.cP (3002 - s.steps.toNat) s = r
theorem pushP_ok {s s' : St} {x : Int} (h : pushP s x = .ok s') : s'.steps = s.steps ∧ s'.stack.length ≤ 400 ∧ s'.notes = s.notes ∧ s'.pts = s.pts := by
  unfold pushP at h
  by_cases h1 : s.stack.length < 400
  · rw [if_pos h1] at h; injection h with h; subst h; refine ⟨rfl, ?_, rfl, rfl⟩; show (s.stack ++ [x]).length ≤ 400; simp; omega
  · rw [if_neg h1] at h; cases h
theorem execP_ok {gl : List Int} {cP : Int} {s s' : St} {op a b : Int} (h : execP gl cP s op a b = .ok s') (h400 : s.stack.length ≤ 400) : s'.steps = s.steps ∧ s'.stack.length ≤ 400 ∧ s'.notes.length ≤ s.notes.length + 1 ∧ s'.pts.length = s.pts.length := by
  unfold execP at h
  repeat' split at h
  · obtain ⟨h1, h2, h3, h4⟩ := pushP_ok h; exact ⟨h1, h2, by rw [h3]; omega, by rw [h4]⟩
  · unfold loadP at h; split at h
    · obtain ⟨h1, h2, h3, h4⟩ := pushP_ok h; exact ⟨h1, h2, by rw [h3]; omega, by rw [h4]⟩
    · cases h
  · unfold storeP at h; split at h
    · cases h
    · split at h
      · injection h with h; subst h; exact ⟨rfl, by show s.stack.dropLast.length ≤ 400; simp; omega, by show s.notes.length ≤ _; omega, rfl⟩
      · cases h
  · unfold notP at h; split at h
    · cases h
    · obtain ⟨h1, h2, h3, h4⟩ := pushP_ok h; exact ⟨h1, h2, by rw [h3]; show s.notes.length ≤ _; omega, by rw [h4]⟩
  · unfold branchP at h; split at h
    · cases h
    · split at h
      · injection h with h; subst h
        split
        · exact ⟨rfl, by show s.stack.dropLast.length ≤ 400; simp; omega, by show s.notes.length ≤ _; omega, by show (s.pts.set _ _).length = _; simp⟩
        · exact ⟨rfl, by show s.stack.dropLast.length ≤ 400; simp; omega, by show s.notes.length ≤ _; omega, by show (s.pts.set _ _).length = _; simp⟩
      · cases h
  · injection h with h; subst h; exact ⟨rfl, h400, by show s.notes.length ≤ _; omega, rfl⟩
  · unfold noteP at h; split at h
    · cases h
    · injection h with h; subst h; exact ⟨rfl, by show s.stack.dropLast.length ≤ 400; simp; omega, by show (s.notes ++ [_]).length ≤ _; simp, rfl⟩
  · injection h with h; subst h; unfold endP; split <;> exact ⟨rfl, h400, by show s.notes.length ≤ _; omega, rfl⟩
  · unfold loopP at h; split at h
    · split at h
      · injection h with h; subst h; exact ⟨rfl, h400, by show s.notes.length ≤ _; omega, rfl⟩
      · injection h with h; subst h; exact ⟨rfl, h400, by show s.notes.length ≤ _; omega, rfl⟩
    · cases h
  · unfold binaryP at h; split at h
    · cases h
    · obtain ⟨h1, h2, h3, h4⟩ := pushP_ok h; exact ⟨h1, h2, by rw [h3]; show s.notes.length ≤ _; omega, by rw [h4]⟩
/-- What a step leaves of the bounds. -/
theorem stepP_ok {f : Nat → Int × Int × Int} {L : Nat} {gl : List Int} {cP : Int} {s s' : St} (h : stepP f L gl cP s = .ok s') (h0 : 0 ≤ s.steps) (h400 : s.stack.length ≤ 400) : s'.steps = s.steps + 1 ∧ s'.stack.length ≤ 400 ∧ s'.notes.length ≤ s.notes.length + 1 ∧ s'.pts.length = s.pts.length ∧ s.steps < 3000 := by
  unfold stepP at h
  by_cases h1 : s.steps < 3000
  · rw [if_pos h1] at h
    have e1 : wrap64 (s.steps + 1) = s.steps + 1 := by unfold wrap64; omega
    by_cases h2 : 0 ≤ s.pc ∧ s.pc < (L : Int)
    · rw [if_pos h2] at h
      by_cases h3 : 1 ≤ (f s.pc.toNat).1 ∧ (f s.pc.toNat).1 < 18
      · rw [if_pos h3, e1] at h
        have hx := execP_ok h h400
        exact ⟨hx.1, hx.2.1, hx.2.2.1, hx.2.2.2, h1⟩
      · rw [if_neg h3] at h; cases h
    · rw [if_neg h2] at h; cases h
  · rw [if_neg h1] at h; cases h
set_option maxRecDepth 100000 in
set_option maxHeartbeats 8000000 in
theorem run_good (A0_0 : Option Addr) (c0_0 : Nat) (l0_0 : List S42) (V P : Nat) (A1 : Option Addr) (c1 : Nat) (l1 : List Int) (A2 : Option Addr) (c2 : Nat) (l2 : List Int) (w : World) (hr0 : Kd.C k42 w A0_0 l0_0.length l0_0) (hr1 : Kd.C (Kd.int .i64) w A1 l1.length l1) (hl1 : l1.length ≤ 4611686018427387904)
    (hr2 : Kd.C (Kd.int .i64) w A2 l2.length l2) (hl2 : l2.length ≤ 4611686018427387904) (htab : TabW w) (hv : validP V P l1 = true) (hV : V ≤ 400) (hP : P ≤ 8) (hlV : l1.length ≤ V) (r : Except Int St) (hr : runP (insF l0_0) l0_0.length l2 P 3002 (initS V P l1) = r) :
    Calls Tryd.prog 11 #[.agg #[.slice A0_0 l0_0.length c0_0, .int .i64 V, .int .i64 P], .slice A1 l1.length c1, .slice A2 l2.length c2] w (RunPost w r) := by
  have HR0 := Lib.hid hr0
  have HR1 := Lib.hid hr1
  have HR2 := Lib.hid hr2
  have HT := Lib.hid htab
  have HV := Lib.hid hv
  have HRR := Lib.hid hr
  have HPRE := Lib.hid (pre_world w (ocO A0_0 l0_0.length c0_0 V P) ooO oeO)
  have hmf : ∀ (fn : Fn) (first cap : Array Value) (w : World), (Instr.makeFunc fn first cap).run Tryd.prog w = .ok (.func fn first cap) w := fun _ _ _ _ => rfl
  clear hr0 hr1 hr2 htab hv hr
  go_enter_defers Tryd.func11, Tryd.ntmps11
  go_wp2_with fail
  obtain ⟨ho, he, hcd, hs3, hB⟩ := HPRE.out
  generalize hw3 : ((w.alloc (.cells #[.slice A0_0 l0_0.length c0_0, .int .i64 V, .int .i64 P] 24)).alloc (.cells #[.slice none 0 0, .slice none 0 0, .int .i64 0, .int .i64 0] 29)).alloc (.cells #[.int .i64 0] 30) = w3 at ho he hcd hs3 hB ⊢
  clear hw3 HPRE
  refine (valid_any _ _ _ A1 c1 l1 w3 hl1 (fun w' hb => Kd.C_below HR1.out (hB.trans (hb.mono (by omega))))).mono ?_
  rintro e w4 ⟨rfl, hb⟩
  rw [HV.out]
  have HO4 := Lib.hid ((hb.block _ (blk_lt ho)).trans ho)
  have HE4 := Lib.hid ((hb.block _ (blk_lt he)).trans he)
  have hcd4 := (hb.block _ (blk_lt hcd)).trans hcd
  have HB4 := Lib.hid (hB.trans (hb.mono (by omega)))
  have hsz4 : w.heap.size + 3 ≤ w4.heap.size := Nat.le_trans (by omega) hb.size
  have d0 : w4.cell? ⟨w.heap.size, 0, none⟩ = some (.slice A0_0 l0_0.length c0_0) := (blk_cell hcd4 0).trans rfl
  have d1 : w4.cell? ⟨w.heap.size, 1, none⟩ = some (.int .i64 (V : Nat)) := (blk_cell hcd4 1).trans rfl
  have d2 : w4.cell? ⟨w.heap.size, 2, none⟩ = some (.int .i64 (P : Nat)) := (blk_cell hcd4 2).trans rfl
  clear ho he hb hB hs3 hcd hcd4
  go_upto_region 4 with fail
  refine start_ (n := 12) (S := fun w' => w'.cell? ⟨w.heap.size, 0, none⟩ = some (.slice A0_0 l0_0.length c0_0) ∧ w'.cell? ⟨w.heap.size, 1, none⟩ = some (.int .i64 (V : Nat)) ∧ w'.cell? ⟨w.heap.size, 2, none⟩ = some (.int .i64 (P : Nat))) (ds := [10]) #[false, false, false, false, false, false, false, false, false, false, false, false] (by kernel_rfl) rfl rfl ⟨(World.cell?_drew _ _).trans d0, (World.cell?_drew _ _).trans d1, (World.cell?_drew _ _).trans d2⟩ (fun hHeld => ?_)
  refine with_tabW run11.tab4 run11.bits4 (fun HT_ HW_ => ?_)
  have HB5 := Lib.hid (HB4.out.drew)
  have HG5 := Lib.hid (show ∀ k, k < w4.heap.size → w4.drew.heap[k]? = w4.heap[k]? from fun k _ => rfl)
  have hz5 : w4.heap.size ≤ w4.drew.heap.size := Nat.le_refl _
  generalize w4.drew = w5 at HB5 HG5 hz5 hHeld ⊢
  refine pure_ (i := 1) (N := some 16) (v := ?_) (a' := ?_) #[false, true, false, false, false, false, false, false, false, false, false, false] rfl rfl (any_of HT_.out (by kernel_rfl)) (hq11 (by decide) (by decide)) (Or.inl ⟨by rfl, ?_⟩) ?_ ?_
  rotate_left
  · intro w'
    go_simp
    first | done | (with_reducible rfl)
  rotate_left
  · simp only [Act.put, List.setIfInBounds_toArray, List.set_cons_zero, List.set_cons_succ, i64_w, i32_w]
    rfl
  refine pure_ (i := 2) (N := some 17) (v := ?_) (a' := ?_) #[false, true, true, false, false, false, false, false, false, false, false, false] rfl rfl (any_of HT_.out (by kernel_rfl)) (hq11 (by decide) (by decide)) (Or.inl ⟨by rfl, ?_⟩) ?_ ?_
  rotate_left
  · intro w'
    go_simp
    first | done | (with_reducible rfl)
  rotate_left
  · simp only [Act.put, List.setIfInBounds_toArray, List.set_cons_zero, List.set_cons_succ, i64_w, i32_w]
    rfl
  refine pure_ (i := 5) (N := some 20) (v := ?_) (a' := ?_) #[false, true, true, false, false, true, false, false, false, false, false, false] rfl rfl (any_of HT_.out (by kernel_rfl)) (hq11 (by decide) (by decide)) (Or.inl ⟨by rfl, ?_⟩) ?_ ?_
  rotate_left
  · intro w'
    go_simp
    first | done | (with_reducible rfl)
  rotate_left
  · simp only [Act.put, List.setIfInBounds_toArray, List.set_cons_zero, List.set_cons_succ, i64_w, i32_w]
    rfl
  refine take_ (i := 0) (N := some 15) (v := ?_) (a' := ?_) #[true, true, true, false, false, true, false, false, false, false, false, false] rfl rfl (take_ofW HT_.out HW_.out (by kernel_rfl)) (hq11 (by decide) (by decide)) (Or.inl ⟨by rfl, ?_⟩) hHeld ?_ ?_
  rotate_left
  · rintro w' ⟨s0, s1, s2⟩
    go_simp
    first | done | (with_reducible rfl)
  rotate_left
  · simp only [Act.put, List.setIfInBounds_toArray, List.set_cons_zero, List.set_cons_succ, i64_w, i32_w]
    rfl
  refine take_ (i := 3) (N := some 18) (v := ?_) (a' := ?_) #[true, true, true, true, false, true, false, false, false, false, false, false] rfl rfl (take_ofW HT_.out HW_.out (by kernel_rfl)) (hq11 (by decide) (by decide)) (Or.inl ⟨by rfl, ?_⟩) hHeld ?_ ?_
  rotate_left
  · rintro w' ⟨s0, s1, s2⟩
    go_simp
    first | done | (with_reducible rfl)
  rotate_left
  · simp only [Act.put, List.setIfInBounds_toArray, List.set_cons_zero, List.set_cons_succ, i64_w, i32_w]
    rfl
  refine take_ (i := 6) (N := some 21) (v := ?_) (a' := ?_) #[true, true, true, true, false, true, true, false, false, false, false, false] rfl rfl (take_ofW HT_.out HW_.out (by kernel_rfl)) (hq11 (by decide) (by decide)) (Or.inl ⟨by rfl, ?_⟩) hHeld ?_ ?_
  rotate_left
  · rintro w' ⟨s0, s1, s2⟩
    go_simp
    first | done | (with_reducible rfl)
  rotate_left
  · simp only [Act.put, List.setIfInBounds_toArray, List.set_cons_zero, List.set_cons_succ, i64_w, i32_w]
    rfl
  have hw0 : w.heap.size < w5.heap.size := by omega
  have hmkV := print_make_of (P := Tryd.prog) 25 3 (.int .i64 0) 8 Tryd.underlying25 (by kernel_rfl) rfl (by decide) V (by omega)
  have hmkP := print_make_of (P := Tryd.prog) 25 3 (.int .i64 0) 8 Tryd.underlying25 (by kernel_rfl) rfl (by decide) P (by omega)
  refine join_ (σ := Nat × Nat) 3 #[true, true, true, true, true, true, true, true, true, false, false, false] (fun s => [(19, .slice (some ⟨s.1, 0, none⟩) V V), (22, .slice (some ⟨s.2, 0, none⟩) P P), (23, .agg #[.slice (some ⟨s.2, 0, none⟩) P P, .slice none 0 0, .int .i64 0, .int .i64 0])]) (fun s w' => Made2 w5 V P s w') ?_ ?_
  rotate_left
  · intro hcont
    have HC := Lib.hid hcont
    clear hcont
    refine two_ (i := 4) (j := 7) (Ni := some 19) (Nj := some 22) #[true, true, true, true, true, true, true, false, false, false, false, false] #[true, true, true, true, false, true, true, true, false, false, false, false] rfl rfl rfl rfl (two_of HT_.out (by kernel_rfl)) (by decide) (by decide) (fun K hK => ?_) (fun K hK => ?_)
    rotate_left
    · skip
      refine value_ (w1 := w5.alloc (.cells (madeCells #[.int .i64 0] P) 3)) (v := .slice (some ⟨w5.heap.size, 0, none⟩) P P) (by rfl) rfl ?_ ?_
      · go_simp
      refine hK.out _ _ ⟨(World.cell?_of_block (w := w5) (a := ⟨w.heap.size, 0, none⟩) (Below.heap_alloc _ _ _ (show w.heap.size < _ by omega))).trans hHeld.1, (World.cell?_of_block (w := w5) (a := ⟨w.heap.size, 1, none⟩) (Below.heap_alloc _ _ _ (show w.heap.size < _ by omega))).trans hHeld.2.1, (World.cell?_of_block (w := w5) (a := ⟨w.heap.size, 2, none⟩) (Below.heap_alloc _ _ _ (show w.heap.size < _ by omega))).trans hHeld.2.2⟩ (fun hHeld1 => ?_)
      clear hK K
      refine norm_ (a' := ?_) ?_ ?_
      rotate_left
      · simp only [Act.put, List.setIfInBounds_toArray, List.set_cons_zero, List.set_cons_succ, i64_w, i32_w]
        rfl
      refine pure_ (i := 8) (N := some 23) (v := ?_) (a' := ?_) #[true, true, true, true, false, true, true, true, true, false, false, false] rfl rfl (any_of HT_.out (by kernel_rfl)) (hq11 (by decide) (by decide)) (Or.inl ⟨by rfl, ?_⟩) ?_ ?_
      rotate_left
      · intro w'
        go_simp
        first | done | (with_reducible rfl)
      rotate_left
      · simp only [Act.put, List.setIfInBounds_toArray, List.set_cons_zero, List.set_cons_succ, i64_w, i32_w]
        rfl
      refine one_ (i := 4) (N := some 19) #[true, true, true, true, true, true, true, true, true, false, false, false] rfl rfl (one_of HT_.out (by kernel_rfl)) (by decide) (fun K hK => ?_)
      have hsz6 : (w5.alloc (.cells (madeCells #[.int .i64 0] P) 3)).heap.size = w5.heap.size + 1 := World.size_alloc _ _
      refine value_ (w1 := (w5.alloc (.cells (madeCells #[.int .i64 0] P) 3)).alloc (.cells (madeCells #[.int .i64 0] V) 3)) (v := .slice (some ⟨w5.heap.size + 1, 0, none⟩) V V) (by rfl) rfl ?_ ?_
      · go_simp
      refine hK.out _ _ ⟨(World.cell?_of_block (w := w5) (a := ⟨w.heap.size, 0, none⟩) ((Below.heap_alloc _ _ _ (show w.heap.size < _ by omega)).trans (Below.heap_alloc _ _ _ (show w.heap.size < _ by omega)))).trans hHeld.1, (World.cell?_of_block (w := w5) (a := ⟨w.heap.size, 1, none⟩) ((Below.heap_alloc _ _ _ (show w.heap.size < _ by omega)).trans (Below.heap_alloc _ _ _ (show w.heap.size < _ by omega)))).trans hHeld.2.1, (World.cell?_of_block (w := w5) (a := ⟨w.heap.size, 2, none⟩) ((Below.heap_alloc _ _ _ (show w.heap.size < _ by omega)).trans (Below.heap_alloc _ _ _ (show w.heap.size < _ by omega)))).trans hHeld.2.2⟩ (fun hHeld2 => ?_)
      clear hK K
      refine norm_ (a' := putAll _ [(19, .slice (some ⟨w5.heap.size + 1, 0, none⟩) V V), (22, .slice (some ⟨w5.heap.size, 0, none⟩) P P), (23, .agg #[.slice (some ⟨w5.heap.size, 0, none⟩) P P, .slice none 0 0, .int .i64 0, .int .i64 0])]) ?_ (HC.out (w5.heap.size + 1, w5.heap.size) _ (made2p w5 V P (by omega) (by omega)))
      simp only [putAll, Act.put, List.setIfInBounds_toArray, List.set_cons_zero, List.set_cons_succ]
    · skip
      refine value_ (w1 := w5.alloc (.cells (madeCells #[.int .i64 0] V) 3)) (v := .slice (some ⟨w5.heap.size, 0, none⟩) V V) (by rfl) rfl ?_ ?_
      · go_simp
      refine hK.out _ _ ⟨(World.cell?_of_block (w := w5) (a := ⟨w.heap.size, 0, none⟩) (Below.heap_alloc _ _ _ (show w.heap.size < _ by omega))).trans hHeld.1, (World.cell?_of_block (w := w5) (a := ⟨w.heap.size, 1, none⟩) (Below.heap_alloc _ _ _ (show w.heap.size < _ by omega))).trans hHeld.2.1, (World.cell?_of_block (w := w5) (a := ⟨w.heap.size, 2, none⟩) (Below.heap_alloc _ _ _ (show w.heap.size < _ by omega))).trans hHeld.2.2⟩ (fun hHeld1 => ?_)
      clear hK K
      refine norm_ (a' := ?_) ?_ ?_
      rotate_left
      · simp only [Act.put, List.setIfInBounds_toArray, List.set_cons_zero, List.set_cons_succ, i64_w, i32_w]
        rfl
      refine one_ (i := 7) (N := some 22) #[true, true, true, true, true, true, true, true, false, false, false, false] rfl rfl (one_of HT_.out (by kernel_rfl)) (by decide) (fun K hK => ?_)
      have hsz6 : (w5.alloc (.cells (madeCells #[.int .i64 0] V) 3)).heap.size = w5.heap.size + 1 := World.size_alloc _ _
      refine value_ (w1 := (w5.alloc (.cells (madeCells #[.int .i64 0] V) 3)).alloc (.cells (madeCells #[.int .i64 0] P) 3)) (v := .slice (some ⟨w5.heap.size + 1, 0, none⟩) P P) (by rfl) rfl ?_ ?_
      · go_simp
      refine hK.out _ _ ⟨(World.cell?_of_block (w := w5) (a := ⟨w.heap.size, 0, none⟩) ((Below.heap_alloc _ _ _ (show w.heap.size < _ by omega)).trans (Below.heap_alloc _ _ _ (show w.heap.size < _ by omega)))).trans hHeld.1, (World.cell?_of_block (w := w5) (a := ⟨w.heap.size, 1, none⟩) ((Below.heap_alloc _ _ _ (show w.heap.size < _ by omega)).trans (Below.heap_alloc _ _ _ (show w.heap.size < _ by omega)))).trans hHeld.2.1, (World.cell?_of_block (w := w5) (a := ⟨w.heap.size, 2, none⟩) ((Below.heap_alloc _ _ _ (show w.heap.size < _ by omega)).trans (Below.heap_alloc _ _ _ (show w.heap.size < _ by omega)))).trans hHeld.2.2⟩ (fun hHeld2 => ?_)
      clear hK K
      refine norm_ (a' := ?_) ?_ ?_
      rotate_left
      · simp only [Act.put, List.setIfInBounds_toArray, List.set_cons_zero, List.set_cons_succ, i64_w, i32_w]
        rfl
      refine pure_ (i := 8) (N := some 23) (v := ?_) (a' := ?_) #[true, true, true, true, true, true, true, true, true, false, false, false] rfl rfl (any_of HT_.out (by kernel_rfl)) (hq11 (by decide) (by decide)) (Or.inl ⟨by rfl, ?_⟩) ?_ ?_
      rotate_left
      · intro w'
        go_simp
        first | done | (with_reducible rfl)
      rotate_left
      · simp only [Act.put, List.setIfInBounds_toArray, List.set_cons_zero, List.set_cons_succ, i64_w, i32_w]
        rfl
      refine norm_ (a' := putAll _ [(19, .slice (some ⟨w5.heap.size, 0, none⟩) V V), (22, .slice (some ⟨w5.heap.size + 1, 0, none⟩) P P), (23, .agg #[.slice (some ⟨w5.heap.size + 1, 0, none⟩) P P, .slice none 0 0, .int .i64 0, .int .i64 0])]) ?_ (HC.out (w5.heap.size, w5.heap.size + 1) _ (made2v w5 V P (by omega) (by omega)))
      simp only [putAll, Act.put, List.setIfInBounds_toArray, List.set_cons_zero, List.set_cons_succ]
  rintro ⟨bv, bp⟩ w6 hM2
  simp only [putAll, Act.put, List.setIfInBounds_toArray, List.set_cons_zero, List.set_cons_succ]
  have HM2 := Lib.hid hM2
  clear hM2 hmkV hmkP
  refine pure_ (i := 9) (N := some 24) (v := ?_) (a' := ?_) #[true, true, true, true, true, true, true, true, true, true, false, false] rfl rfl (any_of HT_.out (by kernel_rfl)) (hq11 (by decide) (by decide)) (Or.inl ⟨by rfl, ?_⟩) ?_ ?_
  rotate_left
  · intro w'
    go_simp
    first | done | (with_reducible rfl)
  rotate_left
  · simp only [Act.put, List.setIfInBounds_toArray, List.set_cons_zero, List.set_cons_succ, i64_w, i32_w]
    rfl
  refine last_ (i := 10) (N := some 25) #[true, true, true, true, true, true, true, true, true, true, true, false] rfl rfl (one_of HT_.out (by kernel_rfl)) (by decide) (fun K hK => ?_)
  refine value_ (w1 := ?_) (v := ?_) (by rfl) rfl ?_ ?_
  rotate_left 2
  · go_simp
    constructor
    · rfl
    · rfl
  refine hK.out _ _ ?_
  clear hK K
  refine norm_ (a' := ?_) ?_ ?_
  rotate_left
  · simp only [Act.put, List.setIfInBounds_toArray, List.set_cons_zero, List.set_cons_succ, i64_w, i32_w]
    rfl
  refine pure_ (i := 11) (N := some 8) (v := ?_) (a' := ?_) #[true, true, true, true, true, true, true, true, true, true, true, true] rfl rfl (any_of HT_.out (by kernel_rfl)) (hq11 (by decide) (by decide)) (Or.inl ⟨by rfl, ?_⟩) ?_ ?_
  rotate_left
  · intro w'
    go_simp
    first | done | (with_reducible rfl)
  rotate_left
  · simp only [Act.put, List.setIfInBounds_toArray, List.set_cons_zero, List.set_cons_succ, i64_w, i32_w]
    rfl
  refine done_ (done_of HT_.out (by kernel_rfl)) ?_
  have hM7 : Mach (w6.alloc (.cells #[.slice A0_0 l0_0.length c0_0, .int .i64 V, .int .i64 P, .slice A2 l2.length c2, .int .i64 0, .slice (some ⟨bv, 0, none⟩) V V, .slice none 0 0, .int .i64 0, .slice (some ⟨bp, 0, none⟩) P P, .slice none 0 0, .int .i64 0, .int .i64 0, .bool false] 53)) w5.heap.size w6.heap.size
      ⟨A0_0, l0_0.length, c0_0, V, P, A2, l2.length, c2⟩ ⟨0, List.replicate V 0, [], 0, List.replicate P 0, [], 0, 0, false⟩ ⟨.slice (some ⟨bv, 0, none⟩) V V, .slice none 0 0, .slice (some ⟨bp, 0, none⟩) P P, .slice none 0 0⟩ := by
    obtain ⟨hne, hrv, hrp, hb6⟩ := HM2.out
    have hm : ∀ {v n xs}, w6.ownsRow w5.heap.size 3 1 v n xs → (w6.alloc (.cells #[.slice A0_0 l0_0.length c0_0, .int .i64 V, .int .i64 P, .slice A2 l2.length c2, .int .i64 0, .slice (some ⟨bv, 0, none⟩) V V, .slice none 0 0, .int .i64 0, .slice (some ⟨bp, 0, none⟩) P P, .slice none 0 0, .int .i64 0, .int .i64 0, .bool false] 53)).ownsRow w5.heap.size 3 1 v n xs := fun {v n xs} hr => own_move hr (fun k hk => Below.heap_alloc _ _ k (own_lt hr k hk))
    have hln : (List.replicate V (0 : Int)).length = V := List.length_replicate
    have hlp : (List.replicate P (0 : Int)).length = P := List.length_replicate
    exact ⟨heap_alloc_new w6 _, hb6.size, by rw [hln]; exact hm hrv, own_nil _ _ _ _, by rw [hlp]; exact hm hrp, own_nil _ _ _ _, ap_nil _ _, fun k h1 h2 => hne (by injection h1 with h1; injection h2 with h2; exact h1.trans h2.symm), ap_nil _ _, nil_ap _ _, nil_ap _ _, ap_nil _ _⟩
  have HM7 := Lib.hid hM7
  have HB7 := Lib.hid (HM2.out.2.2.2.alloc HM2.out.2.2.2.size (.cells #[.slice A0_0 l0_0.length c0_0, .int .i64 V, .int .i64 P, .slice A2 l2.length c2, .int .i64 0, .slice (some ⟨bv, 0, none⟩) V V, .slice none 0 0, .int .i64 0, .slice (some ⟨bp, 0, none⟩) P P, .slice none 0 0, .int .i64 0, .int .i64 0, .bool false] 53))
  clear hM7 HM2 HT_ HW_ hHeld
  generalize hg : w6.heap.size = g at HM7 ⊢
  generalize w6.alloc (.cells #[.slice A0_0 l0_0.length c0_0, .int .i64 V, .int .i64 P, .slice A2 l2.length c2, .int .i64 0, .slice (some ⟨bv, 0, none⟩) V V, .slice none 0 0, .int .i64 0, .slice (some ⟨bp, 0, none⟩) P P, .slice none 0 0, .int .i64 0, .int .i64 0, .bool false] 53) = w7 at HM7 HB7 ⊢
  clear hg
  have k5 := HM7.out.cell 5 rfl
  have HRow := Lib.hid (Kd.R_of_own (h1 := fun _ => rfl) (ok := fun _ => True) HM7.out.rv (fun _ _ => trivial) : (Kd.scalar (Value.int .i64) (fun _ => rfl)).R 3 w7 w5.heap.size (fun _ => True) (.slice (some ⟨bv, 0, none⟩) V V) (List.replicate V 0))
  have HB57 := Lib.hid (HB5.out.trans (HB7.out.mono (Nat.le_of_lt hw0)))
  have HC1 := Lib.hid (Kd.C_below HR1.out HB57.out)
  have hb7 : w5.heap.size ≤ w7.heap.size := HB7.out.size
  have hlen : min l1.length (List.replicate V (0 : Int)).length = l1.length := by rw [List.length_replicate]; omega
  have HLEN := Lib.hid hlen
  clear hlen
  go_wp2_with ((refine Kd.R_copy (o := ⟨some 31, _, _, _, _, _⟩) (enc := Value.int .i64) (h1 := fun _ => rfl) (0 : Int) (w0 := w7) w5.heap.size rfl (.tmp 29) (.tmp 30) 25 25 3 rfl Tryd.underlying25 ?c1 (.slice (some ⟨bv, 0, none⟩) V V) (List.replicate V 0) l1 A1 l1.length c1 (fun _ => True) rfl rfl HRow.out HC1.out (Below.refl _ _) hb7 ?_); (case c1 => kernel_rfl); intro w8 hrow8 hb8 hgr8; rw [HLEN.out] at hrow8; have HR8 := Lib.hid hrow8; have HB8 := Lib.hid hb8; have HG8 := Lib.hid hgr8; clear hrow8 hb8 hgr8)
  have hM8 : Mach w8 w5.heap.size g ⟨A0_0, l0_0.length, c0_0, V, P, A2, l2.length, c2⟩ (initS V P l1) ⟨.slice (some ⟨bv, 0, none⟩) V V, .slice none 0 0, .slice (some ⟨bp, 0, none⟩) P P, .slice none 0 0⟩ := by
    have h := HM7.out.copied HG8.out (l1.take l1.length ++ (List.replicate V 0).drop l1.length) (Kd.own_of_R HR8.out)
    have e : l1.take l1.length ++ (List.replicate V (0 : Int)).drop l1.length = l1 ++ List.replicate (((V : Int)).toNat - l1.length) 0 := by rw [List.take_length, List.drop_replicate, Int.toNat_natCast]
    rw [e] at h
    exact h
  have HM8 := Lib.hid hM8
  have HBW := Lib.hid (fun W (h : Below w5.heap.size w8 W) => HB57.out.trans ((HB8.out.mono (Nat.le_of_lt hw0)).trans (h.mono (Nat.le_of_lt hw0))) : ∀ W, Below w5.heap.size w8 W → Below w.heap.size w W)
  have HO8 := Lib.hid (show ∀ W, Below w5.heap.size w8 W → W.heap[w.heap.size + 1]? = some ooO from fun W h => by
    rw [h.block _ (by omega), HB8.out.block _ (by omega), HB7.out.block _ (by omega), HG5.out _ (by omega)]; exact HO4.out)
  have HE8 := Lib.hid (show ∀ W, Below w5.heap.size w8 W → W.heap[w.heap.size + 1 + 1]? = some oeO from fun W h => by
    rw [h.block _ (by omega), HB8.out.block _ (by omega), HB7.out.block _ (by omega), HG5.out _ (by omega)]; exact HE4.out)
  clear hM8 HM7 HG8 HR8 k5 HRow HC1 HLEN hb7
  go_loopw [] (fun W => RunRel w8 w5.heap.size g ⟨A0_0, l0_0.length, c0_0, V, P, A2, l2.length, c2⟩ (insF l0_0) l2 r W) (fun W => 3001 - stepsOf g W)
  case atStart => exact ⟨_, _, HM8.out, Int.le_refl _, by show (0 : Int) ≤ 3000; decide, Nat.zero_le _, Int.le_refl _, by show ((List.replicate ((P : Int)).toNat (0 : Int)).length : Int) = P; simp, Below.refl _ _, HRR.out⟩
  case round =>
    obtain ⟨s, q, hM, h0, h3, h400, hnt, hpt, hbW, hrun⟩ := hrel
    have hkd : wr.cell? ⟨g, 12, none⟩ = some (.bool s.done) := hM.cell 12 rfl
    have hz : ∀ i, wr.frozen? ⟨g, i, none⟩ = false := hM.fz
    have hstep := step_any hM (by omega) h400 (by omega) (insF l0_0) (insAt rfl (Kd.C_below HR0.out (HBW.out _ hbW))) (HT.out.below (HBW.out _ hbW)).2 l2 rfl hl2 (fun W' h => Kd.C_below HR2.out (HBW.out _ (hbW.trans h))) hpt
    have HMM := Lib.hid hM
    have HRN := Lib.hid hrun
    have HBR := Lib.hid hbW
    have HST := Lib.hid (stepsOf_eq hM)
    have HOW := Lib.hid (HO8.out _ hbW)
    have HEW := Lib.hid (HE8.out _ hbW)
    clear hM hrun hbW
    have hn : 3002 - s.steps.toNat = (3001 - s.steps.toNat) + 1 := by omega
    have hrn := HRN.out
    rw [hn] at hrn
    unfold runP at hrn
    rcases hdn : s.done with _ | _
    · have hkd' : wr.cell? ⟨g, 12, none⟩ = some (.bool false) := by rw [hkd, hdn]
      rw [hdn, if_neg (by decide)] at hrn
      rcases hsp : stepP (insF l0_0) l0_0.length l2 P s with code | s'
      · have hsp' : stepP (insF l0_0) (Co.cL ⟨A0_0, l0_0.length, c0_0, V, P, A2, l2.length, c2⟩) l2 (Co.cP ⟨A0_0, l0_0.length, c0_0, V, P, A2, l2.length, c2⟩) s = .error code := hsp
        rw [hsp'] at hstep hrn
        have HS := Lib.hid hstep
        have HREQ := Lib.hid hrn
        clear hstep hrn hsp hsp' hkd hdn hn hpt
        go_wp2_with (go_at_call 18; refine HS.out.mono ?_; rintro e w' ⟨rfl, hb'⟩; have HBP := Lib.hid hb'; clear hb')
        rw [← HREQ.out]
        exact door_err rfl rfl (HO8.out _ (HBR.out.trans HBP.out)) (HE8.out _ (HBR.out.trans HBP.out)) (by omega) (by omega) (by omega) (HBW.out _ (HBR.out.trans HBP.out))
      · have hsp' : stepP (insF l0_0) (Co.cL ⟨A0_0, l0_0.length, c0_0, V, P, A2, l2.length, c2⟩) l2 (Co.cP ⟨A0_0, l0_0.length, c0_0, V, P, A2, l2.length, c2⟩) s = .ok s' := hsp
        rw [hsp'] at hstep hrn
        have HS := Lib.hid hstep
        have HREQ := Lib.hid hrn
        have HOK := Lib.hid (stepP_ok hsp h0 h400)
        have HPT := Lib.hid hpt
        clear hstep hrn hsp hsp' hkd hdn hn hpt
        go_wp2_with (go_at_call 18; refine HS.out.mono ?_; rintro e w' ⟨rfl, hQ'⟩; have HQ' := Lib.hid hQ'; clear hQ')
        go_roundw
        case rel =>
          obtain ⟨q', hm', hb'⟩ := HQ'.out
          obtain ⟨k1, k2, k3, k4, k5⟩ := HOK.out
          refine ⟨s', q', hm', by omega, by omega, k2, by omega, by rw [k4]; exact HPT.out, HBR.out.trans hb', ?_⟩
          have e : 3002 - s'.steps.toNat = 3001 - s.steps.toNat := by omega
          rw [e]
          exact HREQ.out
        case measure =>
          obtain ⟨q', hm', hb'⟩ := HQ'.out
          obtain ⟨k1, k2, k3, k4, k5⟩ := HOK.out
          rw [HST.out, stepsOf_eq hm']
          omega
    · have hkd' : wr.cell? ⟨g, 12, none⟩ = some (.bool true) := by rw [hkd, hdn]
      rw [hdn, if_pos rfl] at hrn
      have HREQ := Lib.hid hrn
      obtain ⟨Aq, cq, hqp, _, _⟩ := own_slice HMM.out.rp
      obtain ⟨An, cn, hqn, _, _⟩ := own_slice HMM.out.rn
      have e8 : wr.cell? ⟨g, 8, none⟩ = some (.slice Aq s.pts.length cq) := (HMM.out.cell 8 rfl).trans (by rw [← hqp]; rfl)
      have e9 : wr.cell? ⟨g, 9, none⟩ = some (.slice An s.notes.length cn) := (HMM.out.cell 9 rfl).trans (by rw [← hqn]; rfl)
      have HQP := Lib.hid hqp
      have HQN := Lib.hid hqn
      clear hqp hqn
      have e10 : wr.cell? ⟨g, 10, none⟩ = some (.int .i64 s.fin) := HMM.out.cell 10 rfl
      have e11 : wr.cell? ⟨g, 11, none⟩ = some (.int .i64 s.steps) := HMM.out.cell 11 rfl
      have p0 : wr.cell? ⟨w.heap.size + 1, 0, none⟩ = some (.slice none 0 0) := (blk_cell HOW.out 0).trans rfl
      have p1 : wr.cell? ⟨w.heap.size + 1, 1, none⟩ = some (.slice none 0 0) := (blk_cell HOW.out 1).trans rfl
      have p2 : wr.cell? ⟨w.heap.size + 1, 2, none⟩ = some (.int .i64 0) := (blk_cell HOW.out 2).trans rfl
      have p3 : wr.cell? ⟨w.heap.size + 1, 3, none⟩ = some (.int .i64 0) := (blk_cell HOW.out 3).trans rfl
      have p4 : wr.cell? ⟨w.heap.size + 1 + 1, 0, none⟩ = some (.int .i64 0) := (blk_cell HEW.out 0).trans rfl
      have z0 := blk_frozen HOW.out 0
      have z1 := blk_frozen HOW.out 1
      have z2 := blk_frozen HOW.out 2
      have z3 := blk_frozen HOW.out 3
      have z4 := blk_frozen HEW.out 0
      clear hstep hrn hkd hdn hn hpt
      go_wp2_with fail
      rw [← HREQ.out]
      have hlow : ∀ k, w5.heap.size ≤ k → k ≠ w.heap.size + 1 ∧ k ≠ w.heap.size + 1 + 1 := fun k hk => ⟨by omega, by omega⟩
      have hmv : ∀ {v n xs} (a0 a1 a2 a3 a4 : Value), wr.ownsRow w5.heap.size 3 1 v n xs → (((((wr.setCell ⟨w.heap.size + 1, 0, none⟩ a0).setCell ⟨w.heap.size + 1, 1, none⟩ a1).setCell ⟨w.heap.size + 1, 2, none⟩ a2).setCell ⟨w.heap.size + 1, 3, none⟩ a3).setCell ⟨w.heap.size + 1 + 1, 0, none⟩ a4).ownsRow w.heap.size 3 1 v n xs := fun {v n xs} a0 a1 a2 a3 a4 h =>
        own_weaken (own_far (own_far (own_far (own_far (own_far h (fun k hk => (hlow k (own_base h k hk)).1)) (fun k hk => (hlow k (own_base h k hk)).1)) (fun k hk => (hlow k (own_base h k hk)).1)) (fun k hk => (hlow k (own_base h k hk)).1)) (fun k hk => (hlow k (own_base h k hk)).2)) (Nat.le_of_lt hw0)
      refine door_ok (o := w.heap.size + 1) (er := w.heap.size + 1 + 1) (v0 := .slice Aq s.pts.length cq) (v1 := .slice An s.notes.length cn) ?h6 ?h7 ?_ ?_ (hmv _ _ _ _ _ (by rw [← HQP.out]; exact HMM.out.rp)) (hmv _ _ _ _ _ (by rw [← HQN.out]; exact HMM.out.rn)) (by rw [← HQP.out, ← HQN.out]; exact HMM.out.pn) ?_
      case h6 => rfl
      case h7 => rfl
      · have h1 := blk_put HOW.out 0 (.slice Aq s.pts.length cq) rfl
        have h2 := blk_put h1 1 (.slice An s.notes.length cn) rfl
        have h3 := blk_put h2 2 (.int .i64 s.fin) rfl
        have h4 := blk_put h3 3 (.int .i64 s.steps) rfl
        exact blk_far h4 (p := ⟨w.heap.size + 1 + 1, 0, none⟩) (by simp) _
      · have h1 := blk_far HEW.out (p := ⟨w.heap.size + 1, 0, none⟩) (by simp) (.slice Aq s.pts.length cq)
        have h2 := blk_far h1 (p := ⟨w.heap.size + 1, 1, none⟩) (by simp) (.slice An s.notes.length cn)
        have h3 := blk_far h2 (p := ⟨w.heap.size + 1, 2, none⟩) (by simp) (.int .i64 s.fin)
        have h4 := blk_far h3 (p := ⟨w.heap.size + 1, 3, none⟩) (by simp) (.int .i64 s.steps)
        exact blk_put h4 0 _ rfl
      · exact ((((((HBW.out _ HBR.out)).setCell (p := ⟨w.heap.size + 1, 0, none⟩) (by simp) _).setCell (p := ⟨w.heap.size + 1, 1, none⟩) (by simp) _).setCell (p := ⟨w.heap.size + 1, 2, none⟩) (by simp) _).setCell (p := ⟨w.heap.size + 1, 3, none⟩) (by simp) _).setCell (p := ⟨w.heap.size + 1 + 1, 0, none⟩) (by simp; omega) _
theorem validP_iff {V P : Int} {l : List Int} (h : validP V P l = true) : 0 ≤ P ∧ P ≤ 8 ∧ (l.length : Int) ≤ V ∧ V ≤ 400 := by
  unfold validP at h
  simp only [Bool.and_eq_true, decide_eq_true_eq] at h
  exact ⟨h.1, h.2.1, h.2.2.1, h.2.2.2.1⟩
theorem vm_Run.calls (A0_0 : Option Addr) (c0_0 : Nat) (l0_0 : List (S42)) (a0_1 : Int) (a0_2 : Int) (A1 : Option Addr) (c1 : Nat) (l1 : List Int) (A2 : Option Addr) (c2 : Nat) (l2 : List Int) (r1 : List Int) (r2 : List Int) (r3 : Int) (r4 : Int) (r5 : Int) (w : World) (hr0_0 : Kd.C k42 w A0_0 l0_0.length l0_0) (hc0_0 : l0_0.length ≤ c0_0) (hr1 : Kd.C (Kd.int .i64) w A1 l1.length l1) (hc1 : l1.length ≤ c1) (hr2 : Kd.C (Kd.int .i64) w A2 l2.length l2) (hc2 : l2.length ≤ c2) (htab : TabW w) (h : vm_Run.f l0_0 a0_1 a0_2 l1 l2 = some (r1, r2, r3, r4, r5)) :
    Calls Tryd.prog 11 #[.agg #[.slice A0_0 l0_0.length c0_0, .int .i64 a0_1, .int .i64 a0_2], .slice A1 l1.length c1, .slice A2 l2.length c2] w fun e w' => ∃ v0_ v1_ : Value, e = .returned (.tuple #[.agg #[v0_, v1_, .int .i64 r3, .int .i64 r4], .int .i64 r5]) ∧ Kd.R (Kd.int .i64) 3 w' w.heap.size (fun k_ => some k_ ≠ (v1_ : Value).ownBlock) v0_ r1 ∧ Kd.R (Kd.int .i64) 3 w' w.heap.size (fun k_ => some k_ ≠ (v0_ : Value).ownBlock) v1_ r2 ∧ Below w.heap.size w w' := by
  unfold vm_Run.f at h
  by_cases hl : l1.length ≤ 4611686018427387904 ∧ l2.length ≤ 4611686018427387904
  · rw [if_pos hl] at h
    injection h with h
    cases hv : validP a0_1 a0_2 l1
    · rw [hv, if_neg (by decide)] at h
      simp only [Prod.mk.injEq] at h
      obtain ⟨rfl, rfl, rfl, rfl, rfl⟩ := h
      refine (run_bad A0_0 c0_0 l0_0 a0_1 a0_2 A1 c1 l1 (.slice A2 l2.length c2) w hr1 hl.1 hv).mono ?_
      rintro e w' ⟨rfl, hb⟩
      exact ⟨.slice none 0 0, .slice none 0 0, rfl, Kd.R_nil _ _ _ _ _, Kd.R_nil _ _ _ _ _, hb⟩
    · rw [hv, if_pos rfl] at h
      obtain ⟨h1, h2, h3, h4⟩ := validP_iff hv
      obtain ⟨P, rfl⟩ := Int.eq_ofNat_of_zero_le h1
      obtain ⟨V, rfl⟩ := Int.eq_ofNat_of_zero_le (show 0 ≤ a0_1 by omega)
      refine (run_good A0_0 c0_0 l0_0 V P A1 c1 l1 A2 c2 l2 w hr0_0 hr1 hl.1 hr2 hl.2 htab hv (by omega) (by omega) (by omega) _ rfl).mono ?_
      rintro e w' ⟨v0, v1, he, hR0, hR1, hb⟩
      rw [h] at he hR0 hR1
      exact ⟨v0, v1, he, hR0, hR1, hb⟩
  · rw [if_neg hl] at h
    cases h
end Go.Proofs.YtbgfkepnlpgagaaDoor.P
