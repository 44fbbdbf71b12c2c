/- Some small texts of the machine's walk, in one. -/
import Derived.Test.YtbgfkepnlpgagaaDoorProg
import Derived.Below
import Derived.Deep.Draws
import Derived.Deep.AppendLies
import Derived.Maps.AppendAt
import Derived.OwnWalk
import Derived.Laws.BytesArg
import Derived.Laws.MakeOwn
import Derived.Laws.OwnMore
import Derived.Deep.OwnRows
import Derived.Tactics
import Derived.Lib.ConvBytes
import Derived.Laws.Slices
import Derived.WalkKit
import Derived.KernelRfl
import Derived.RowKit3
import Derived.Deep.LoopGhost
import Derived.Deep.QuietTactic
import Derived.BigQuiet
import Derived.WideLaws
import Derived.Deep.DeepCutAuto
import Derived.Deep.CutBlock
import Derived.Deep.RegionHeld3
import Derived.Laws.Rows
import Derived.Lib.AppendStr
import Derived.ArgAppend
import Derived.Laws.IdiomCopy
import Derived.OrdersHeld
import Derived.Laws.BitsLemmas
import Derived.RowKit
import Derived.Test.YtbgfkepnlpgagaaDoorWWords
import Derived.Test.YtbgfkepnlpgagaaDoorWLast
import Derived.Test.YtbgfkepnlpgagaaDoorWTab
import Derived.Test.YtbgfkepnlpgagaaDoorWFour
import Derived.Test.YtbgfkepnlpgagaaDoorWQPut
import Derived.Test.YtbgfkepnlpgagaaDoorWApart
import Derived.Test.YtbgfkepnlpgagaaDoorWArr
import Derived.Test.YtbgfkepnlpgagaaDoorWZeros
import Derived.Test.YtbgfkepnlpgagaaDoorWFoot
import Derived.Test.YtbgfkepnlpgagaaDoorWKept
import Derived.Test.YtbgfkepnlpgagaaDoorWShare
import Derived.Test.YtbgfkepnlpgagaaDoorWN
import Derived.Test.YtbgfkepnlpgagaaDoorWFootNe
import Derived.Test.YtbgfkepnlpgagaaDoorWAt
import Derived.Test.YtbgfkepnlpgagaaDoorWEqStruct
import Derived.Test.YtbgfkepnlpgagaaDoorWRepsOne
import Derived.Test.YtbgfkepnlpgagaaDoorWInv
import Derived.Test.YtbgfkepnlpgagaaDoorWInvWords
import Derived.Test.YtbgfkepnlpgagaaDoorWGuard
import Derived.Test.YtbgfkepnlpgagaaDoorWNEv
import Derived.Test.YtbgfkepnlpgagaaDoorWMore
import Derived.Lib.Hide
import Derived.Outline
import Derived.Recover
import Derived.WalkLawsBesides
import Derived.Laws.Panics
import Derived.Laws.Pointers
import Derived.Tactics2
import Derived.Deep.RegionWith
import Derived.WalkSpells
section
namespace Go.Proofs.YtbgfkepnlpgagaaDoor.P
open Go.RowKit Go.Proofs.YtbgfkepnlpgagaaDoorW.PrintWords Go.Proofs.YtbgfkepnlpgagaaDoorW.PrintLast Go.Proofs.YtbgfkepnlpgagaaDoorW.PrintMore
attribute [local go_sem] max2_int min2_int max_two min_two max_three min_three max_four min_four
set_option linter.unusedVariables false
set_option linter.unusedSimpArgs false

/-- What 'panic(failure{e})' hands on. -/
def fail (e : Int) : List PanicEntry := [{ v := .iface 49 (.agg #[.int .i64 e]), recovered := false }]
theorem need_ok (e : Int) (w : World) : Calls Tryd.prog 22 #[.bool true, .int .i64 e] w fun r w' => r = .returned (.tuple #[]) ∧ w = w' := by
  go_enter Tryd.func22, Tryd.ntmps22
  go_wp2
  first | exact ⟨rfl, rfl⟩ | (go_end0; exact ⟨rfl, rfl⟩) | trace_state
theorem need_no (e : Int) (w : World) : Calls Tryd.prog 22 #[.bool false, .int .i64 e] w fun r w' => r = .panicked (fail e) ∧ w = w' := by
  go_enter Tryd.func22, Tryd.ntmps22
  go_wp2
  exact ⟨rfl, rfl, rfl⟩
theorem need_yes (b : Bool) (e : Int) (w : World) (hb : b = true) : Calls Tryd.prog 22 #[.bool b, .int .i64 e] w fun r w' => r = .returned (.tuple #[]) ∧ w = w' := by subst hb; exact need_ok e w
theorem need_not (b : Bool) (e : Int) (w : World) (hb : b = false) : Calls Tryd.prog 22 #[.bool b, .int .i64 e] w fun r w' => r = .panicked (fail e) ∧ w = w' := by subst hb; exact need_no e w
theorem wrap_any (x : Int) (w : World) : Calls Tryd.prog 57 #[.int .i64 x] w fun r w' => r = .returned (.int .i64 (x % 65536)) ∧ w = w' := by
  have hx : (wrap64 (x.tmod 65536 + 65536)).tmod 65536 = x % 65536 := by
    have h1 := Int.tmod_lt_of_pos x (show (0 : Int) < 65536 by decide)
    have h2 : -65536 < x.tmod 65536 := by
      rcases Int.lt_or_le x 0 with h | h
      · have := Int.neg_tmod (-x) 65536
        rw [Int.neg_neg] at this
        have h3 := Int.tmod_lt_of_pos (-x) (show (0 : Int) < 65536 by decide)
        omega
      · have := Int.tmod_nonneg (a := x) 65536 h
        omega
    have h3 : wrap64 (x.tmod 65536 + 65536) = x.tmod 65536 + 65536 := by unfold wrap64; omega
    rw [h3, Int.tmod_eq_emod_of_nonneg (by omega)]
    have h4 := Int.mul_tdiv_add_tmod x 65536
    omega
  have HX := Lib.hid hx
  clear hx
  go_enter Tryd.func57, Tryd.ntmps57
  go_wp2
  rw [HX.out]
  go_ret
  exact ⟨rfl, rfl⟩
def b2i (b : Bool) : Int := if b then 1 else 0
theorem truth_any (b : Bool) (w : World) : Calls Tryd.prog 60 #[.bool b] w fun r w' => r = .returned (.int .i64 (b2i b)) ∧ w = w' := by
  cases b
  all_goals
    go_enter Tryd.func60, Tryd.ntmps60
    go_wp2
    go_ret
    exact ⟨rfl, rfl⟩
end Go.Proofs.YtbgfkepnlpgagaaDoor.P
end
section
namespace Go.Proofs.YtbgfkepnlpgagaaDoor.P
open Go.RowKit Go.Proofs.YtbgfkepnlpgagaaDoorW.PrintWords Go.Proofs.YtbgfkepnlpgagaaDoorW.PrintLast Go.Proofs.YtbgfkepnlpgagaaDoorW.PrintMore
attribute [local go_sem] max2_int min2_int max_two min_two max_three min_three max_four min_four
set_option linter.unusedVariables false
set_option linter.unusedSimpArgs false

/-- The state of an execution. -/
structure St where
  pc : Int
  vars : List Int
  stack : List Int
  br : Int
  pts : List Int
  notes : List Int
  fin : Int
  steps : Int
  done : Bool
structure Co where
  cA : Option Addr
  cL : Nat
  cC : Nat
  cV : Int
  cP : Int
  gA : Option Addr
  gL : Nat
  gC : Nat
structure Vs where
  v : Value
  s : Value
  p : Value
  n : Value
def n64 (xs : List Int) : List Value := xs.map (Value.int .i64)
theorem n64_length (xs : List Int) : (n64 xs).length = xs.length := List.length_map ..
def Ap (u v : Value) : Prop := ∀ k, u.ownBlock = some k → v.ownBlock = some k → False
/-- The machine in memory. -/
structure Mach (W : World) (base g : Nat) (c : Co) (s : St) (q : Vs) : Prop where
  blk : W.heap[g]? = some (.cells #[.slice c.cA c.cL c.cC, .int .i64 c.cV, .int .i64 c.cP, .slice c.gA c.gL c.gC, .int .i64 s.pc, q.v, q.s, .int .i64 s.br, q.p, q.n, .int .i64 s.fin, .int .i64 s.steps, .bool s.done] 53 (0, 0))
  low : base ≤ g
  rv : W.ownsRow base 3 1 q.v s.vars.length (n64 s.vars)
  rs : W.ownsRow base 3 1 q.s s.stack.length (n64 s.stack)
  rp : W.ownsRow base 3 1 q.p s.pts.length (n64 s.pts)
  rn : W.ownsRow base 3 1 q.n s.notes.length (n64 s.notes)
  vs : Ap q.v q.s
  vp : Ap q.v q.p
  vn : Ap q.v q.n
  sp : Ap q.s q.p
  sn : Ap q.s q.n
  pn : Ap q.p q.n
section
variable {W W' : World} {base g : Nat} {c : Co} {s : St} {q : Vs}
theorem own_ne {b n : Nat} {v : Value} {xs : List Value} {t : Nat} {cs : Array Value} (hb : W.heap[g]? = some (.cells cs t (0, 0))) (ht : t ≠ 3) (h : W.ownsRow b 3 1 v n xs) : ∀ k, v.ownBlock = some k → k ≠ g := by
  rintro k hk rfl
  obtain ⟨cells, hc⟩ := own_typed h k hk
  rw [hb] at hc
  injection hc with hc
  injection hc with _ hc
  exact ht hc
theorem Mach.base_le (h : Mach W base g c s q) : base ≤ W.heap.size := Nat.le_trans h.low (Nat.le_of_lt (blk_lt h.blk))
theorem Mach.move (h : Mach W base g c s q) (hm : ∀ k, base ≤ k → k < W.heap.size → W'.heap[k]? = W.heap[k]?) : Mach W' base g c s q :=
  ⟨(hm g h.low (blk_lt h.blk)).trans h.blk, h.low, own_move h.rv (fun k hk => hm k (own_base h.rv k hk) (own_lt h.rv k hk)), own_move h.rs (fun k hk => hm k (own_base h.rs k hk) (own_lt h.rs k hk)),
    own_move h.rp (fun k hk => hm k (own_base h.rp k hk) (own_lt h.rp k hk)), own_move h.rn (fun k hk => hm k (own_base h.rn k hk) (own_lt h.rn k hk)), h.vs, h.vp, h.vn, h.sp, h.sn, h.pn⟩
theorem Mach.alloc (h : Mach W base g c s q) (o : Obj) : Mach (W.alloc o) base g c s q := h.move (fun k _ hk => Below.heap_alloc W o k hk)
theorem Mach.drew (h : Mach W base g c s q) : Mach W.drew base g c s q := h.move (fun k _ _ => rfl)
/-- A field is written: no slice among them. -/
theorem Mach.set (h : Mach W base g c s q) {s' : St} {q' : Vs} (i : Nat) (u : Value)
    (e : (#[.slice c.cA c.cL c.cC, .int .i64 c.cV, .int .i64 c.cP, .slice c.gA c.gL c.gC, .int .i64 s.pc, q.v, q.s, .int .i64 s.br, q.p, q.n, .int .i64 s.fin, .int .i64 s.steps, .bool s.done] : Array Value).setIfInBounds i u =
      #[.slice c.cA c.cL c.cC, .int .i64 c.cV, .int .i64 c.cP, .slice c.gA c.gL c.gC, .int .i64 s'.pc, q'.v, q'.s, .int .i64 s'.br, q'.p, q'.n, .int .i64 s'.fin, .int .i64 s'.steps, .bool s'.done])
    (rv : W.ownsRow base 3 1 q'.v s'.vars.length (n64 s'.vars)) (rs : W.ownsRow base 3 1 q'.s s'.stack.length (n64 s'.stack)) (rp : W.ownsRow base 3 1 q'.p s'.pts.length (n64 s'.pts)) (rn : W.ownsRow base 3 1 q'.n s'.notes.length (n64 s'.notes))
    (vs : Ap q'.v q'.s) (vp : Ap q'.v q'.p) (vn : Ap q'.v q'.n) (sp : Ap q'.s q'.p) (sn : Ap q'.s q'.n) (pn : Ap q'.p q'.n) : Mach (W.setCell ⟨g, i, none⟩ u) base g c s' q' := by
  have hm : ∀ {v n xs}, W.ownsRow base 3 1 v n xs → (W.setCell ⟨g, i, none⟩ u).ownsRow base 3 1 v n xs := fun {v n xs} hr => own_move hr (fun k hk => Below.heap_setCell _ _ _ _ (own_ne h.blk (by decide) hr k hk))
  exact ⟨blk_put h.blk i u e, h.low, hm rv, hm rs, hm rp, hm rn, vs, vp, vn, sp, sn, pn⟩
theorem Mach.setPc (h : Mach W base g c s q) (x : Int) : Mach (W.setCell ⟨g, 4, none⟩ (.int .i64 x)) base g c { s with pc := x } q := h.set 4 _ rfl h.rv h.rs h.rp h.rn h.vs h.vp h.vn h.sp h.sn h.pn
theorem Mach.setBr (h : Mach W base g c s q) (x : Int) : Mach (W.setCell ⟨g, 7, none⟩ (.int .i64 x)) base g c { s with br := x } q := h.set 7 _ rfl h.rv h.rs h.rp h.rn h.vs h.vp h.vn h.sp h.sn h.pn
theorem Mach.setFin (h : Mach W base g c s q) (x : Int) : Mach (W.setCell ⟨g, 10, none⟩ (.int .i64 x)) base g c { s with fin := x } q := h.set 10 _ rfl h.rv h.rs h.rp h.rn h.vs h.vp h.vn h.sp h.sn h.pn
theorem Mach.setSteps (h : Mach W base g c s q) (x : Int) : Mach (W.setCell ⟨g, 11, none⟩ (.int .i64 x)) base g c { s with steps := x } q := h.set 11 _ rfl h.rv h.rs h.rp h.rn h.vs h.vp h.vn h.sp h.sn h.pn
theorem Mach.setDone (h : Mach W base g c s q) (x : Bool) : Mach (W.setCell ⟨g, 12, none⟩ (.bool x)) base g c { s with done := x } q := h.set 12 _ rfl h.rv h.rs h.rp h.rn h.vs h.vp h.vn h.sp h.sn h.pn
/-- The stack's row turned into another one. -/
theorem Mach.setStack (h : Mach W base g c s q) (u : Value) (xs : List Int) (hr : W.ownsRow base 3 1 u xs.length (n64 xs)) (hv : Ap q.v u) (hp : Ap u q.p) (hn : Ap u q.n) :
    Mach (W.setCell ⟨g, 6, none⟩ u) base g c { s with stack := xs } { q with s := u } := h.set 6 u rfl h.rv hr h.rp h.rn hv h.vp h.vn hp hn h.pn
theorem Mach.setNotes (h : Mach W base g c s q) (u : Value) (xs : List Int) (hr : W.ownsRow base 3 1 u xs.length (n64 xs)) (hv : Ap q.v u) (hp : Ap q.p u) (hn : Ap q.s u) :
    Mach (W.setCell ⟨g, 9, none⟩ u) base g c { s with notes := xs } { q with n := u } := h.set 9 u rfl h.rv h.rs h.rp hr h.vs h.vp hv h.sp hn hp
/-- A variable is written. -/
theorem n64_set (xs : List Int) (j : Nat) (x : Int) : n64 (xs.set j x) = (n64 xs).set j (.int .i64 x) := by unfold n64; rw [List.map_set]
theorem own_far {b n gb : Nat} {v : Value} {xs : List Value} {j : Nat} {u : Value} (h : W.ownsRow b 3 1 v n xs) (hne : ∀ k, v.ownBlock = some k → k ≠ gb) : (W.setCell ⟨gb, j, none⟩ u).ownsRow b 3 1 v n xs :=
  own_move h (fun k hk => Below.heap_setCell _ _ _ _ (hne k hk))
theorem Mach.putVar (h : Mach W base g c s q) {b cap : Nat} (hq : q.v = .slice (some ⟨b, 0, none⟩) s.vars.length cap) (j : Nat) (x : Int) : Mach (W.setCell ⟨b, j, none⟩ (.int .i64 x)) base g c { s with vars := s.vars.set j x } q := by
  have hk : q.v.ownBlock = some b := by rw [hq]; rfl
  have hrv := h.rv
  rw [hq] at hrv
  have hr' : (W.setCell ⟨b, j, none⟩ (.int .i64 x)).ownsRow base 3 1 q.v (s.vars.set j x).length (n64 (s.vars.set j x)) := by
    rw [List.length_set, n64_set, hq]; exact (hrv.stored j (.int .i64 x)).1
  refine ⟨blk_far h.blk (fun e => own_ne h.blk (by decide) h.rv b hk e.symm) _, h.low, hr', own_far h.rs (fun k hs e => h.vs b hk (e ▸ hs)), own_far h.rp (fun k hs e => h.vp b hk (e ▸ hs)), own_far h.rn (fun k hs e => h.vn b hk (e ▸ hs)), h.vs, h.vp, h.vn, h.sp, h.sn, h.pn⟩
theorem Mach.putPt (h : Mach W base g c s q) {b cap : Nat} (hq : q.p = .slice (some ⟨b, 0, none⟩) s.pts.length cap) (j : Nat) (x : Int) : Mach (W.setCell ⟨b, j, none⟩ (.int .i64 x)) base g c { s with pts := s.pts.set j x } q := by
  have hk : q.p.ownBlock = some b := by rw [hq]; rfl
  have hrp := h.rp
  rw [hq] at hrp
  have hr' : (W.setCell ⟨b, j, none⟩ (.int .i64 x)).ownsRow base 3 1 q.p (s.pts.set j x).length (n64 (s.pts.set j x)) := by
    rw [List.length_set, n64_set, hq]; exact (hrp.stored j (.int .i64 x)).1
  refine ⟨blk_far h.blk (fun e => own_ne h.blk (by decide) h.rp b hk e.symm) _, h.low, own_far h.rv (fun k hs e => h.vp k hs (e ▸ hk)), own_far h.rs (fun k hs e => h.sp k hs (e ▸ hk)), hr', own_far h.rn (fun k hs e => h.pn b hk (e ▸ hs)), h.vs, h.vp, h.vn, h.sp, h.sn, h.pn⟩
theorem own_slice {b n : Nat} {v : Value} {xs : List Value} (h : W.ownsRow b 3 1 v n xs) : ∃ A cap, v = .slice A n cap ∧ n ≤ cap ∧ (0 < n → ∃ gb, A = some ⟨gb, 0, none⟩) := by
  rcases h.2 with ⟨rfl, h0⟩ | ⟨gb, cap, cur, rfl, _, _, h3, _⟩
  · subst h0; exact ⟨none, 0, rfl, Nat.le_refl _, fun h => absurd h (Nat.lt_irrefl _)⟩
  · exact ⟨_, cap, rfl, h3, fun _ => ⟨gb, rfl⟩⟩
theorem Mach.cell (h : Mach W base g c s q) (i : Nat) {u : Value} (e : (#[.slice c.cA c.cL c.cC, .int .i64 c.cV, .int .i64 c.cP, .slice c.gA c.gL c.gC, .int .i64 s.pc, q.v, q.s, .int .i64 s.br, q.p, q.n, .int .i64 s.fin, .int .i64 s.steps, .bool s.done] : Array Value)[i]? = some u) : W.cell? ⟨g, i, none⟩ = some u := (blk_cell h.blk i).trans e
theorem Mach.fz (h : Mach W base g c s q) (i : Nat) : W.frozen? ⟨g, i, none⟩ = false := blk_frozen h.blk i
end
set_option maxRecDepth 100000 in
theorem push_no {W : World} {base g : Nat} {c : Co} {s : St} {q : Vs} (h : Mach W base g c s q) (x : Int) (hl : ¬ s.stack.length < 400) :
    Calls Tryd.prog 56 #[.pointer (some ⟨g, 0, none⟩), .int .i64 x] W fun r w' => r = .panicked (fail 2) ∧ W = w' := by
  obtain ⟨A, cap, hs, hc, _⟩ := own_slice h.rs
  have k6 := h.cell 6 rfl
  rw [hs] at k6
  have hd : decide ((s.stack.length : Int) < 400) = false := decide_eq_false (by omega)
  clear hl h
  go_enter Tryd.func56, Tryd.ntmps56
  go_wp2_with (go_at_call 22; refine (need_not _ _ _ (by first | rfl | assumption | (simp; omega))).mono ?_; rintro e w' ⟨rfl, rfl⟩)
  exact ⟨rfl, rfl, rfl⟩
theorem info3 : (Tryd.prog.info? 3).map (fun i => (i.zero, i.size, i.bytes)) = some (some (.int .i64 0), 1, 8) := by kernel_rfl
theorem ap_append {W : World} {base n : Nat} {v v1 u : Value} {xs : List Value} (h : Ap u v) (hr : W.ownsRow base 3 1 u n xs) (hat : v1.ownBlock = v.ownBlock ∨ ∃ b, v1.ownBlock = some b ∧ W.heap.size ≤ b) : Ap u v1 := by
  intro k h1 h2
  rcases hat with e | ⟨b, e, hb⟩
  · exact h k h1 (e ▸ h2)
  · rw [e] at h2
    cases h2
    have := own_lt hr k h1
    omega
theorem Ap.symm {u v : Value} (h : Ap u v) : Ap v u := fun k h1 h2 => h k h2 h1
/-- Behind an append to the stack's row: the machine, the row not yet stored. -/
theorem Mach.grown {W w1 : World} {base g : Nat} {c : Co} {s : St} {q : Vs} (h : Mach W base g c s q) {v : Value} (hgr : W.grownBy w1 v.ownBlock) (hn : ∀ k, v.ownBlock = some k → k ≠ g) (h1 : Ap q.v v) (h2 : Ap q.p v) (h3 : Ap q.n v) (xs : List Int) {v1 : Value}
    (ho : w1.ownsRow base 3 1 v1 xs.length (n64 xs)) (a1 : Ap q.v v1) (a2 : Ap q.p v1) (a3 : Ap q.n v1) : Mach (w1.setCell ⟨g, 6, none⟩ v1) base g c { s with stack := xs } { q with s := v1 } := by
  have hb : w1.heap[g]? = _ := (hgr.block g (blk_lt h.blk) (fun e => hn g e.symm rfl)).trans h.blk
  have hm : ∀ {u n ys}, Ap u v → W.ownsRow base 3 1 u n ys → w1.ownsRow base 3 1 u n ys := fun {u n ys} ha hr => own_move hr (fun k hk => hgr.block k (own_lt hr k hk) (fun e => ha k hk e.symm))
  have hf : ∀ {u n ys}, w1.ownsRow base 3 1 u n ys → (w1.setCell ⟨g, 6, none⟩ v1).ownsRow base 3 1 u n ys := fun {u n ys} hr => own_far hr (own_ne hb (by decide) hr)
  exact ⟨blk_put hb 6 v1 rfl, h.low, hf (hm h1 h.rv), hf ho, hf (hm h2 h.rp), hf (hm h3 h.rn), a1, h.vp, h.vn, a2.symm, a3.symm, h.pn⟩
set_option maxRecDepth 100000 in
theorem push_ok {W : World} {base g : Nat} {c : Co} {s : St} {q : Vs} (h : Mach W base g c s q) (x : Int) (hl : s.stack.length < 400) :
    Calls Tryd.prog 56 #[.pointer (some ⟨g, 0, none⟩), .int .i64 x] W fun r w' => r = .returned (.tuple #[]) ∧ ∃ q', Mach w' base g c { s with stack := s.stack ++ [x] } q' ∧ Below base W w' := by
  obtain ⟨A, cap, hs, hc, _⟩ := own_slice h.rs
  have k6 : W.cell? ⟨g, 6, none⟩ = some (.slice A s.stack.length cap) := (h.cell 6 rfl).trans (by rw [← hs]; rfl)
  have hrs := h.rs
  rw [hs] at hrs
  have hd : decide ((s.stack.length : Int) < 400) = true := decide_eq_true (by omega)
  have HM := Lib.hid h
  have HRS := Lib.hid hrs
  have hbl := h.base_le
  have hgW := blk_lt h.blk
  have HG := Lib.hid (show ∀ w1 : World, W.grownBy w1 (Value.slice A s.stack.length cap).ownBlock → w1.heap[g]? = W.heap[g]? from fun w1 hgr => hgr.block g hgW (fun e => own_ne h.blk (by decide) hrs g e.symm rfl))
  clear h hrs
  go_enter Tryd.func56, Tryd.ntmps56
  go_wp2_with (first
    | (go_at_call 22; refine (need_yes _ _ _ (by first | rfl | assumption | (simp; omega))).mono ?_; rintro e w' ⟨rfl, rfl⟩)
    | (at_builtin; refine print_append_cells (w0 := W) base (by rfl) _ _ 25 3 (.int .i64 0) 1 8 rfl Tryd.underlying25 info3 rfl (by decide) (by decide) (.slice A s.stack.length cap) s.stack.length (n64 s.stack) [.int .i64 x] rfl rfl rfl ?c1 HRS.out (Below.refl _ _) hbl ?c2 ?_; (case c1 => simp [Value.oneCell']); (case c2 => omega); intro v1 w1 hown hB1 hgr hat; have k61 : w1.cell? ⟨g, 6, none⟩ = some (.slice A s.stack.length cap) := ((World.cell?_of_block (w := W) (a := ⟨g, 6, none⟩) (HG.out w1 hgr)).trans k6); have hz1 : w1.frozen? ⟨g, 6, none⟩ = false := blk_frozen ((HG.out w1 hgr).trans HM.out.blk) 6; have HO := Lib.hid hown; have HB1 := Lib.hid hB1; have HGR := Lib.hid hgr; have HAT := Lib.hid hat; obtain ⟨A1, cap1, hv1, _, _⟩ := own_slice hown; clear hown hB1 hgr hat; subst hv1))
  go_end0
  have h := HM.out
  refine ⟨rfl, _, h.grown (v := q.s) (by rw [hs]; exact HGR.out) (own_ne h.blk (by decide) h.rs) h.vs h.sp.symm h.sn.symm (s.stack ++ [x]) (v1 := .slice A1 (s.stack.length + 1) cap1) ?_ (ap_append h.vs h.rv (by rw [hs]; exact HAT.out)) (ap_append h.sp.symm h.rp (by rw [hs]; exact HAT.out)) (ap_append h.sn.symm h.rn (by rw [hs]; exact HAT.out)), HB1.out.setCell (p := ⟨g, 6, none⟩) h.low _⟩
  rw [List.length_append]
  unfold n64 at HO ⊢
  rw [List.map_append]
  exact HO.out
set_option maxRecDepth 100000 in
theorem pop_no {W : World} {base g : Nat} {c : Co} {s : St} {q : Vs} (h : Mach W base g c s q) (hl : s.stack = []) :
    Calls Tryd.prog 59 #[.pointer (some ⟨g, 0, none⟩)] W fun r w' => r = .panicked (fail 21) ∧ W = w' := by
  obtain ⟨A, cap, hs, hc, _⟩ := own_slice h.rs
  have k6 : W.cell? ⟨g, 6, none⟩ = some (.slice A 0 cap) := (h.cell 6 rfl).trans (by rw [hl] at hs; rw [hs]; rfl)
  clear h
  go_enter Tryd.func59, Tryd.ntmps59
  go_wp2_with (go_at_call 22; refine (need_not _ _ _ (by first | rfl | assumption | (simp; omega))).mono ?_; rintro e w' ⟨rfl, rfl⟩)
  exact ⟨rfl, rfl, rfl⟩
theorem n64_at (xs : List Int) (j : Nat) (h : j < xs.length) : (n64 xs)[j]? = some (.int .i64 xs[j]) := by unfold n64; rw [List.getElem?_map, List.getElem?_eq_getElem h]; rfl
set_option maxRecDepth 100000 in
theorem pop_ok {W : World} {base g : Nat} {c : Co} {s : St} {q : Vs} (h : Mach W base g c s q) (xs : List Int) (x : Int) (hl : s.stack = xs ++ [x]) (h400 : s.stack.length ≤ 400) :
    Calls Tryd.prog 59 #[.pointer (some ⟨g, 0, none⟩)] W fun r w' => r = .returned (.int .i64 x) ∧ ∃ u, Mach w' base g c { s with stack := xs } { q with s := u } ∧ Below base W w' ∧ ∀ k, k ≠ g → w'.heap[k]? = W.heap[k]? := by
  obtain ⟨A, cap, hs, hc, hA⟩ := own_slice h.rs
  have hln : s.stack.length = xs.length + 1 := by rw [hl]; simp
  obtain ⟨gb, rfl⟩ := hA (by omega)
  have hrs := h.rs
  rw [hs] at hrs
  have kx : W.cell? ⟨gb, xs.length, none⟩ = some (.int .i64 x) := (hrs.cellAt xs.length (by omega)).trans (by rw [n64_at _ _ (by omega)]; simp [hl])
  rw [hln] at hs hc
  have k6 : W.cell? ⟨g, 6, none⟩ = some (.slice (some ⟨gb, 0, none⟩) (xs.length + 1) cap) := (h.cell 6 rfl).trans (by rw [← hs]; rfl)
  have hz := h.fz 6
  have HM := Lib.hid h
  have hw : wrap64 ((xs.length : Int) + 1 - 1) = (xs.length : Int) := by unfold wrap64; omega
  have HW := Lib.hid hw
  have HRS := Lib.hid hrs
  have HL := Lib.hid hl
  clear h hrs hw hl
  go_enter Tryd.func59, Tryd.ntmps59
  go_wp2_with (go_at_call 22; refine (need_yes _ _ _ (by first | rfl | assumption | (simp; omega))).mono ?_; rintro e w' ⟨rfl, rfl⟩)
  go_ret
  have h := HM.out
  have hb : q.s.ownBlock = some gb := by rw [hs]; rfl
  have hr := HRS.out
  refine ⟨rfl, _, h.setStack (.slice (some ⟨gb, 0, none⟩) xs.length cap) xs ?_ (fun k h1 h2 => h.vs k h1 (by rw [hb]; exact h2)) (fun k h1 h2 => h.sp k (by rw [hb]; exact h1) h2) (fun k h1 h2 => h.sn k (by rw [hb]; exact h1) h2), (Below.refl _ _).setCell (p := ⟨g, 6, none⟩) h.low _, fun k hk => Below.heap_setCell _ _ _ _ hk⟩
  have ht := own_take hr (m := xs.length) (by omega)
  have e : (n64 s.stack).take (xs.length * 1) = n64 xs := by rw [HL.out]; unfold n64; rw [List.map_append, Nat.mul_one, List.take_left' (by simp)]
  rw [e] at ht
  exact ht
end Go.Proofs.YtbgfkepnlpgagaaDoor.P
end
section
namespace Go.Proofs.YtbgfkepnlpgagaaDoor.P
open Go.RowKit Go.Proofs.YtbgfkepnlpgagaaDoorW.PrintWords Go.Proofs.YtbgfkepnlpgagaaDoorW.PrintLast Go.Proofs.YtbgfkepnlpgagaaDoorW.PrintMore
attribute [local go_sem] max2_int min2_int max_two min_two max_three min_three max_four min_four
set_option linter.unusedVariables false
set_option linter.unusedSimpArgs false

theorem Mach.var {W : World} {base g : Nat} {c : Co} {s : St} {q : Vs} (h : Mach W base g c s q) (j : Nat) (hj : j < s.vars.length) : ∃ b cap, q.v = .slice (some ⟨b, 0, none⟩) s.vars.length cap ∧ s.vars.length ≤ cap ∧ W.cell? ⟨b, j, none⟩ = some (.int .i64 s.vars[j]) ∧ W.frozen? ⟨b, j, none⟩ = false ∧ base ≤ b := by
  obtain ⟨A, cap, hs, hc, hA⟩ := own_slice h.rv
  obtain ⟨b, rfl⟩ := hA (by omega)
  have hr := h.rv
  rw [hs] at hr
  exact ⟨b, cap, hs, hc, (hr.cellAt j (by omega)).trans (n64_at _ _ hj), hr.frozenAt j, own_base hr b rfl⟩
set_option maxRecDepth 100000 in
theorem variable_ok {W : World} {base g : Nat} {c : Co} {s : St} {q : Vs} (h : Mach W base g c s q) (j b cap : Nat) (hj : j < s.vars.length) (hq : q.v = .slice (some ⟨b, 0, none⟩) s.vars.length cap) :
    Calls Tryd.prog 58 #[.pointer (some ⟨g, 0, none⟩), .int .i64 j] W fun r w' => r = .returned (.pointer (some ⟨b, j, none⟩)) ∧ W = w' := by
  have k5 : W.cell? ⟨g, 5, none⟩ = some (.slice (some ⟨b, 0, none⟩) s.vars.length cap) := (h.cell 5 rfl).trans (by rw [← hq]; rfl)
  have hd : decide ((j : Int) < (s.vars.length : Int)) = true := decide_eq_true (by omega)
  clear h hq
  go_enter Tryd.func58, Tryd.ntmps58
  go_wp2_with (go_at_call 22; refine (need_yes _ _ _ (by first | rfl | assumption | (simp; omega))).mono ?_; rintro e w' ⟨rfl, rfl⟩)
  go_ret
  exact ⟨rfl, rfl⟩
set_option maxRecDepth 100000 in
theorem variable_no {W : World} {base g : Nat} {c : Co} {s : St} {q : Vs} (h : Mach W base g c s q) (a : Int) (ha : ¬ (0 ≤ a ∧ a < (s.vars.length : Int))) :
    Calls Tryd.prog 58 #[.pointer (some ⟨g, 0, none⟩), .int .i64 a] W fun r w' => r = .panicked (fail 21) ∧ W = w' := by
  obtain ⟨A, cap, hs, hc, hA⟩ := own_slice h.rv
  have k5 : W.cell? ⟨g, 5, none⟩ = some (.slice A s.vars.length cap) := (h.cell 5 rfl).trans (by rw [← hs]; rfl)
  clear h hs
  by_cases h0 : 0 ≤ a
  · have hd0 : decide (0 ≤ a) = true := decide_eq_true h0
    have hd : decide (a < (s.vars.length : Int)) = false := decide_eq_false (by omega)
    go_enter Tryd.func58, Tryd.ntmps58
    go_wp2_with (go_at_call 22; refine (need_not _ _ _ (by first | rfl | assumption | (simp; omega))).mono ?_; rintro e w' ⟨rfl, rfl⟩)
    exact ⟨rfl, rfl, rfl⟩
  · have hd0 : decide (0 ≤ a) = false := decide_eq_false h0
    go_enter Tryd.func58, Tryd.ntmps58
    go_wp2_with (go_at_call 22; refine (need_not _ _ _ (by first | rfl | assumption | (simp; omega))).mono ?_; rintro e w' ⟨rfl, rfl⟩)
    exact ⟨rfl, rfl, rfl⟩
/-- What an instruction leaves. -/
def Left_ (base g : Nat) (c : Co) (W : World) (r : Except Int St) (e : Ending) (w' : World) : Prop :=
  match r with
  | .ok s' => e = .returned (.tuple #[]) ∧ ∃ q', Mach w' base g c s' q' ∧ Below base W w'
  | .error code => e = .panicked (fail code) ∧ Below base W w'
def pushP (s : St) (x : Int) : Except Int St := if s.stack.length < 400 then .ok { s with stack := s.stack ++ [x] } else .error 2
theorem push_any {W : World} {base g : Nat} {c : Co} {s : St} {q : Vs} (h : Mach W base g c s q) (x : Int) :
    Calls Tryd.prog 56 #[.pointer (some ⟨g, 0, none⟩), .int .i64 x] W (Left_ base g c W (pushP s x)) := by
  unfold pushP
  by_cases hl : s.stack.length < 400
  · rw [if_pos hl]; exact push_ok h x hl
  · rw [if_neg hl]
    refine (push_no h x hl).mono ?_
    rintro e w' ⟨rfl, rfl⟩
    exact ⟨rfl, Below.refl _ _⟩
abbrev insV (op a b : Int) : Value := .agg #[.int .i64 op, .int .i64 a, .int .i64 b]
/-- A tail call of push. -/
theorem Left_.lower {base g : Nat} {c : Co} {W W' : World} {r : Except Int St} {e : Ending} {w' : World} (h : Left_ base g c W' r e w') (hb : Below base W W') : Left_ base g c W r e w' := by
  cases r with
  | ok s' => obtain ⟨rfl, q', hm, hB⟩ := h; exact ⟨rfl, q', hm, hb.trans hB⟩
  | error code => obtain ⟨rfl, hB⟩ := h; exact ⟨rfl, hb.trans hB⟩
set_option maxRecDepth 100000 in
theorem constant_any {W : World} {base g : Nat} {c : Co} {s : St} {q : Vs} (h : Mach W base g c s q) (op a b : Int) :
    Calls Tryd.prog 46 #[.pointer (some ⟨g, 0, none⟩), insV op a b] W (Left_ base g c W (pushP s (a % 65536))) := by
  have HM := Lib.hid h
  have hb := h.base_le
  have HP := Lib.hid (fun W' (h : Mach W' base g c s q) => push_any h (a % 65536))
  clear h
  rcases hr : pushP s (a % 65536) with code | s'
  all_goals
    have HQ := Lib.hid (fun W' (h : Mach W' base g c s q) => hr ▸ HP.out W' h)
    clear HP hr
    go_enter Tryd.func46, Tryd.ntmps46
    go_wp2_with (first
      | (go_at_call 57; refine (wrap_any _ _).mono ?_; rintro e w' ⟨rfl, rfl⟩)
      | (go_at_call 56; refine (HQ.out _ (HM.out.alloc _)).mono ?_; rintro e w' ⟨rfl, hR⟩; have HR := Lib.hid hR; clear hR))
  · exact ⟨rfl, rfl, ((Below.refl _ _).alloc hb _).trans HR.out⟩
  · go_end0
    obtain ⟨q', hm, hB⟩ := HR.out
    exact ⟨rfl, q', hm, ((Below.refl _ _).alloc hb _).trans hB⟩
/-- A variable pushed. -/
def loadP (s : St) (a : Int) : Except Int St := if 0 ≤ a ∧ a < (s.vars.length : Int) then pushP s (s.vars.getD a.toNat 0) else .error 21
set_option maxRecDepth 100000 in
theorem load_any {W : World} {base g : Nat} {c : Co} {s : St} {q : Vs} (h : Mach W base g c s q) (op a b : Int) :
    Calls Tryd.prog 47 #[.pointer (some ⟨g, 0, none⟩), insV op a b] W (Left_ base g c W (loadP s a)) := by
  unfold loadP
  have hb := h.base_le
  have HB := Lib.hid ((Below.refl base W).alloc hb (.cells #[.int .i64 op, .int .i64 a, .int .i64 b] 42))
  by_cases ha : 0 ≤ a ∧ a < (s.vars.length : Int)
  · rw [if_pos ha]
    obtain ⟨j, rfl⟩ := Int.eq_ofNat_of_zero_le ha.1
    have hj : j < s.vars.length := by omega
    have ha1 := h.alloc (.cells #[.int .i64 op, .int .i64 j, .int .i64 b] 42)
    obtain ⟨b1, cap, hq, hcap, hx, hz, hlow⟩ := ha1.var j hj
    rw [Int.toNat_natCast, List.getD_eq_getElem?_getD, List.getElem?_eq_getElem hj, Option.getD_some]
    have HM := Lib.hid ha1
    have HQ1 := Lib.hid hq
    have HP := Lib.hid (fun W' (h : Mach W' base g c s q) => push_any h s.vars[j])
    clear h ha1 hq
    rcases hr : pushP s s.vars[j] with code | s'
    all_goals
      have HQ := Lib.hid (fun W' (h : Mach W' base g c s q) => hr ▸ HP.out W' h)
      clear HP hr
      go_enter Tryd.func47, Tryd.ntmps47
      go_wp2_with (first
        | (go_at_call 58; refine (variable_ok HM.out j b1 cap hj HQ1.out).mono ?_; rintro e w' ⟨rfl, rfl⟩)
        | (go_at_call 56; refine (HQ.out _ HM.out).mono ?_; rintro e w' ⟨rfl, hR⟩; have HR := Lib.hid hR; clear hR))
    · exact ⟨rfl, rfl, HB.out.trans HR.out⟩
    · go_end0
      obtain ⟨q', hm, hB⟩ := HR.out
      exact ⟨rfl, q', hm, HB.out.trans hB⟩
  · rw [if_neg ha]
    have HM := Lib.hid (h.alloc (.cells #[.int .i64 op, .int .i64 a, .int .i64 b] 42))
    clear h
    go_enter Tryd.func47, Tryd.ntmps47
    go_wp2_with (go_at_call 58; refine (variable_no HM.out a ha).mono ?_; rintro e w' ⟨rfl, rfl⟩)
    exact ⟨rfl, rfl, HB.out⟩
end Go.Proofs.YtbgfkepnlpgagaaDoor.P
end
section
namespace Go.Proofs.YtbgfkepnlpgagaaDoor.P
open Go.RowKit Go.Proofs.YtbgfkepnlpgagaaDoorW.PrintWords Go.Proofs.YtbgfkepnlpgagaaDoorW.PrintLast Go.Proofs.YtbgfkepnlpgagaaDoorW.PrintMore
attribute [local go_sem] max2_int min2_int max_two min_two max_three min_three max_four min_four
set_option linter.unusedVariables false
set_option linter.unusedSimpArgs false

theorem stack_split (xs : List Int) : xs = [] ∨ ∃ ys y, xs = ys ++ [y] := by
  rcases List.eq_nil_or_concat xs with h | ⟨ys, y, h⟩
  · exact .inl h
  · exact .inr ⟨ys, y, by rw [h, List.concat_eq_append]⟩
theorem stack6 {W : World} {base g : Nat} {c : Co} {s : St} {q : Vs} (h : Mach W base g c s q) : ∃ A cap, W.cell? ⟨g, 6, none⟩ = some (.slice A s.stack.length cap) := by
  obtain ⟨A, cap, hs, _, _⟩ := own_slice h.rs
  exact ⟨A, cap, (h.cell 6 rfl).trans (by rw [← hs]; rfl)⟩
def storeP (s : St) (a : Int) : Except Int St :=
  if s.stack = [] then .error 21 else if 0 ≤ a ∧ a < (s.vars.length : Int) then .ok { s with vars := s.vars.set a.toNat (s.stack.getLastD 0), stack := s.stack.dropLast } else .error 21
set_option maxRecDepth 100000 in
theorem store_any {W : World} {base g : Nat} {c : Co} {s : St} {q : Vs} (h : Mach W base g c s q) (h400 : s.stack.length ≤ 400) (op a b : Int) :
    Calls Tryd.prog 48 #[.pointer (some ⟨g, 0, none⟩), insV op a b] W (Left_ base g c W (storeP s a)) := by
  unfold storeP
  have hb := h.base_le
  have HB := Lib.hid ((Below.refl base W).alloc hb (.cells #[.int .i64 op, .int .i64 a, .int .i64 b] 42))
  have ha1 := h.alloc (.cells #[.int .i64 op, .int .i64 a, .int .i64 b] 42)
  obtain ⟨A, cap, k6⟩ := stack6 ha1
  rcases stack_split s.stack with hs | ⟨xs, x, hs⟩
  · rw [if_pos hs]
    rw [hs] at k6
    clear h ha1 hs
    go_enter Tryd.func48, Tryd.ntmps48
    go_wp2_with (go_at_call 22; refine (need_not _ _ _ (by first | rfl | assumption | (simp; omega))).mono ?_; rintro e w' ⟨rfl, rfl⟩)
    exact ⟨rfl, rfl, HB.out⟩
  · rw [if_neg (by rw [hs]; simp)]
    have hln : s.stack.length = xs.length + 1 := by rw [hs]; simp
    rw [hln] at k6
    have hd : decide (0 < (xs.length : Int) + 1) = true := decide_eq_true (by omega)
    by_cases hv : 0 ≤ a ∧ a < (s.vars.length : Int)
    · rw [if_pos hv]
      obtain ⟨j, rfl⟩ := Int.eq_ofNat_of_zero_le hv.1
      have hj : j < s.vars.length := by omega
      obtain ⟨b1, cap1, hq, hcap, hx, hz, hlow⟩ := ha1.var j hj
      have e1 : s.stack.getLastD 0 = x := by rw [hs]; simp
      have e2 : s.stack.dropLast = xs := by rw [hs]; simp
      rw [e1, e2, Int.toNat_natCast]
      have HM := Lib.hid ha1
      have HQ1 := Lib.hid hq
      have HS := Lib.hid hs
      clear h ha1 hs hq hx hz e1 e2
      go_enter Tryd.func48, Tryd.ntmps48
      go_wp2_with (first
        | (go_at_call 22; refine (need_yes _ _ _ (by first | rfl | assumption | (simp; omega))).mono ?_; rintro e w' ⟨rfl, rfl⟩)
        | (go_at_call 58; refine (variable_ok HM.out j b1 cap1 hj HQ1.out).mono ?_; rintro e w' ⟨rfl, rfl⟩)
        | (go_at_call 59; refine (pop_ok HM.out xs x HS.out h400).mono ?_; rintro e w2 ⟨rfl, u, hm2, hB2, _⟩; obtain ⟨b2, cap2, hq2, _, hx2, hz2, _⟩ := hm2.var j hj; have hqe : (Value.slice (some ⟨b2, 0, none⟩) s.vars.length cap2) = .slice (some ⟨b1, 0, none⟩) s.vars.length cap1 := hq2.symm.trans HQ1.out; injection hqe with hqe _ _; injection hqe with hqe; injection hqe with hqe _ _; subst hqe; have HM2 := Lib.hid hm2; have HB2 := Lib.hid hB2; clear hm2 hB2 hq2))
      go_end0
      exact ⟨rfl, _, HM2.out.putVar HQ1.out j x, (HB.out.trans HB2.out).setCell (p := ⟨b2, j, none⟩) hlow _⟩
    · rw [if_neg hv]
      have HM := Lib.hid ha1
      clear h ha1 hs
      go_enter Tryd.func48, Tryd.ntmps48
      go_wp2_with (first
        | (go_at_call 22; refine (need_yes _ _ _ (by first | rfl | assumption | (simp; omega))).mono ?_; rintro e w' ⟨rfl, rfl⟩)
        | (go_at_call 58; refine (variable_no HM.out a hv).mono ?_; rintro e w' ⟨rfl, rfl⟩))
      exact ⟨rfl, rfl, HB.out⟩
def notP (s : St) : Except Int St := if s.stack = [] then .error 21 else pushP { s with stack := s.stack.dropLast } (b2i (s.stack.getLastD 0 == 0))
set_option maxRecDepth 100000 in
theorem not_any {W : World} {base g : Nat} {c : Co} {s : St} {q : Vs} (h : Mach W base g c s q) (h400 : s.stack.length ≤ 400) (op a b : Int) :
    Calls Tryd.prog 50 #[.pointer (some ⟨g, 0, none⟩), insV op a b] W (Left_ base g c W (notP s)) := by
  unfold notP
  have hb := h.base_le
  have HB := Lib.hid ((Below.refl base W).alloc hb (.cells #[.int .i64 op, .int .i64 a, .int .i64 b] 42))
  have HM := Lib.hid (h.alloc (.cells #[.int .i64 op, .int .i64 a, .int .i64 b] 42))
  clear h
  rcases stack_split s.stack with hs | ⟨xs, x, hs⟩
  · rw [if_pos hs]
    have HS := Lib.hid hs
    clear hs
    go_enter Tryd.func50, Tryd.ntmps50
    go_wp2_with (go_at_call 59; refine (pop_no HM.out HS.out).mono ?_; rintro e w' ⟨rfl, rfl⟩)
    exact ⟨rfl, rfl, HB.out⟩
  · rw [if_neg (by rw [hs]; simp)]
    have e1 : s.stack.getLastD 0 = x := by rw [hs]; simp
    have e2 : s.stack.dropLast = xs := by rw [hs]; simp
    rw [e1, e2]
    have HS := Lib.hid hs
    have HP := Lib.hid (fun W' q' (h : Mach W' base g c { s with stack := xs } q') => push_any h (b2i (x == 0)))
    clear hs e1 e2
    rcases hr : pushP { s with stack := xs } (b2i (x == 0)) with code | s'
    all_goals
      have HQ := Lib.hid (fun W' q' (h : Mach W' base g c { s with stack := xs } q') => hr ▸ HP.out W' q' h)
      clear HP hr
      go_enter Tryd.func50, Tryd.ntmps50
      go_wp2_with (first
        | (go_at_call 59; refine (pop_ok HM.out xs x HS.out h400).mono ?_; rintro e w2 ⟨rfl, u, hm2, hB2, _⟩; have HM2 := Lib.hid hm2; have HB2 := Lib.hid hB2; clear hm2 hB2)
        | (go_at_call 60; refine (truth_any _ _).mono ?_; rintro e w' ⟨rfl, rfl⟩)
        | (go_at_call 56; refine (HQ.out _ _ HM2.out).mono ?_; rintro e w' ⟨rfl, hR⟩; have HR := Lib.hid hR; clear hR))
    · exact ⟨rfl, rfl, (HB.out.trans HB2.out).trans HR.out⟩
    · go_end0
      obtain ⟨q', hm, hB⟩ := HR.out
      exact ⟨rfl, q', hm, (HB.out.trans HB2.out).trans hB⟩
set_option maxRecDepth 100000 in
theorem jump_any {W : World} {base g : Nat} {c : Co} {s : St} {q : Vs} (h : Mach W base g c s q) (op a b : Int) :
    Calls Tryd.prog 52 #[.pointer (some ⟨g, 0, none⟩), insV op a b] W (Left_ base g c W (.ok { s with pc := a })) := by
  have hb := h.base_le
  have HB := Lib.hid ((Below.refl base W).alloc hb (.cells #[.int .i64 op, .int .i64 a, .int .i64 b] 42))
  have ha := h.alloc (.cells #[.int .i64 op, .int .i64 a, .int .i64 b] 42)
  have k4 := ha.cell 4 rfl
  have hz := ha.fz 4
  have HM := Lib.hid ha
  have hlow := h.low
  clear h ha
  go_enter Tryd.func52, Tryd.ntmps52
  go_wp2
  go_end0
  exact ⟨rfl, _, HM.out.setPc a, HB.out.setCell (p := ⟨g, 4, none⟩) hlow _⟩
def endP (s : St) (op a : Int) : St := if op = 15 then { s with done := true, fin := a } else { s with done := true }
set_option maxRecDepth 100000 in
theorem end_any {W : World} {base g : Nat} {c : Co} {s : St} {q : Vs} (h : Mach W base g c s q) (op a b : Int) :
    Calls Tryd.prog 54 #[.pointer (some ⟨g, 0, none⟩), insV op a b] W (Left_ base g c W (.ok (endP s op a))) := by
  have hb := h.base_le
  have HB := Lib.hid ((Below.refl base W).alloc hb (.cells #[.int .i64 op, .int .i64 a, .int .i64 b] 42))
  have ha := h.alloc (.cells #[.int .i64 op, .int .i64 a, .int .i64 b] 42)
  have k12 := ha.cell 12 rfl
  have k10 := ha.cell 10 rfl
  have hz := ha.fz 12
  have hz10 := ha.fz 10
  have HM := Lib.hid ha
  have hlow := h.low
  have hgW : g ≠ W.heap.size := Nat.ne_of_lt (blk_lt h.blk)
  clear h ha
  unfold endP
  by_cases hop : op = 15
  · subst hop
    rw [if_pos rfl]
    go_enter Tryd.func54, Tryd.ntmps54
    go_wp2
    go_end0
    exact ⟨rfl, _, (HM.out.setDone true).setFin a, (HB.out.setCell (p := ⟨g, 12, none⟩) hlow _).setCell (p := ⟨g, 10, none⟩) hlow _⟩
  · rw [if_neg hop]
    have hd : (op == 15) = false := by simpa using hop
    go_enter Tryd.func54, Tryd.ntmps54
    go_wp2
    go_end0
    exact ⟨rfl, _, (HM.out.setDone true), (HB.out.setCell (p := ⟨g, 12, none⟩) hlow _)⟩
end Go.Proofs.YtbgfkepnlpgagaaDoor.P
end
section
namespace Go.Proofs.YtbgfkepnlpgagaaDoor.P
open Go.RowKit Go.Proofs.YtbgfkepnlpgagaaDoorW.PrintWords Go.Proofs.YtbgfkepnlpgagaaDoorW.PrintLast Go.Proofs.YtbgfkepnlpgagaaDoorW.PrintMore
attribute [local go_sem] max2_int min2_int max_two min_two max_three min_three max_four min_four
set_option linter.unusedVariables false
set_option linter.unusedSimpArgs false

theorem any_drop (p : Int → Bool) (l : List Int) (k : Nat) (hk : k < l.length) : (l.drop k).any p = (p (rd l k) || (l.drop (k + 1)).any p) := by
  have e : rd l k = l[k] := by unfold rd; rw [Int.toNat_natCast, List.getD_eq_getElem?_getD, List.getElem?_eq_getElem hk]; rfl
  rw [e, List.drop_eq_getElem_cons hk, List.any_cons]
theorem index_any (A : Option Addr) (n c : Nat) (l : List Int) (x : Int) (w : World) (hn : n = l.length) (hl : l.length ≤ 4611686018427387904) (hr : (Kd.int .i64).C w A n l) :
    Calls Tryd.prog 62 #[.slice A n c, .int .i64 x] w fun e w' => ∃ i : Int, (decide (0 ≤ i) = l.any (fun y => x == y)) ∧ e = .returned (.int .i64 i) ∧ w = w' := by
  subst hn
  have HR := Lib.hid hr
  clear hr
  go_enter Tryd.func62, Tryd.ntmps62
  go_wp2_with fail
  go_loop [8] (fun i => ∃ k : Nat, k ≤ l.length ∧ i = .int .i64 k ∧ l.any (fun y => x == y) = (l.drop k).any (fun y => x == y)) (fun i => l.length - (intOf i).toNat)
  case atStart => exact ⟨0, Nat.zero_le _, rfl, by simp⟩
  case round =>
    obtain ⟨k, hk, rfl, hany⟩ := hrel
    have HA := Lib.hid hany
    clear hany
    by_cases hlt : k < l.length
    · obtain ⟨ad, rfl, hx⟩ := Kd.at_int HR.out k (by omega) (by omega)
      rw [Int.toNat_natCast] at hx
      cases hb : (x == rd l k)
      · have hany : l.any (fun y => x == y) = (l.drop (k + 1)).any (fun y => x == y) := by rw [HA.out, any_drop _ _ _ hlt, hb]; rfl
        have HA2 := Lib.hid hany
        clear hany
        go_wp2_with fail
        go_round
        case rel => exact ⟨k + 1, by omega, by go_num, HA2.out⟩
        case measure => simp [intOf]; omega
      · have hany : decide ((0 : Int) ≤ (k : Int)) = l.any (fun y => x == y) := by rw [HA.out, any_drop _ _ _ hlt, hb]; simp
        have HA2 := Lib.hid hany
        clear hany
        go_wp2_with fail
        go_ret
        exact ⟨k, HA2.out, rfl, rfl⟩
    · have hz : decide ((0 : Int) ≤ (-1 : Int)) = l.any (fun y => x == y) := by rw [HA.out, List.drop_of_length_le (by omega)]; rfl
      have HZ := Lib.hid hz
      clear hz
      go_wp2_with fail
      go_ret
      exact ⟨-1, HZ.out, rfl, rfl⟩
theorem contains_any (A : Option Addr) (c : Nat) (l : List Int) (x : Int) (w : World) (hl : l.length ≤ 4611686018427387904) (hr : (Kd.int .i64).C w A l.length l) :
    Calls Tryd.prog 61 #[.slice A l.length c, .int .i64 x] w fun e w' => e = .returned (.bool (l.any (fun y => x == y))) ∧ w = w' := by
  have HR := Lib.hid hr
  clear hr
  go_enter Tryd.func61, Tryd.ntmps61
  go_wp2_with fail
  refine (index_any A _ c l x w rfl hl HR.out).mono ?_
  rintro e w' ⟨i, hi, rfl, rfl⟩
  have HI := Lib.hid hi
  clear hi
  go_wp2_with fail
  rw [HI.out]
  go_ret
  exact ⟨rfl, rfl⟩
end Go.Proofs.YtbgfkepnlpgagaaDoor.P
end
