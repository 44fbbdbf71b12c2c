/- The reference's Run. -/
import Derived.Test.YtbgfkepnlpgagaaDoorV26
namespace Go.Proofs.YtbgfkepnlpgagaaDoor.P
open Go.RowKit Go.Proofs.YtbgfkepnlpgagaaDoorW.PrintWords Go.Proofs.YtbgfkepnlpgagaaDoorW.PrintLast Go.Proofs.YtbgfkepnlpgagaaDoorW.PrintMore
attribute [local go_sem] max2_int min2_int max_two min_two max_three min_three max_four min_four
set_option linter.unusedVariables false
set_option linter.unusedSimpArgs false
abbrev outZ : Array Value := #[.slice none 0 0, .slice none 0 0, .int .i64 0, .int .i64 0]
/-- The blocks of the reference's Run: the code, the result, the state. -/
structure Fq (w W : World) (m : Nat) (code st : Array Value) : Prop where
  k : W.heap[w.heap.size]? = some (.cells code 24 (0, 0))
  o : W.heap[w.heap.size + 1]? = some (.cells outZ 29 (0, 0))
  s : W.heap[m]? = some (.cells st 55 (0, 0))
  b : Below w.heap.size w W
  n3 : w.heap.size + 2 ≤ m
section
variable {w W W' : World} {m : Nat} {code st : Array Value}
theorem Fq.move (h : Fq w W m code st) (hb : Below w.heap.size w W') (hm : ∀ (k : Nat) (t : TypeId) (cs : Array Value), t ≠ 3 → W.heap[k]? = some (Obj.cells cs t (0, 0)) → W'.heap[k]? = W.heap[k]?) : Fq w W' m code st :=
  ⟨(hm _ 24 _ (by decide) h.k).trans h.k, (hm _ 29 _ (by decide) h.o).trans h.o, (hm _ 55 _ (by decide) h.s).trans h.s, hb, h.n3⟩
theorem Fq.below (h : Fq w W m code st) (hb : Below W.heap.size W W') : Fq w W' m code st := h.move (h.b.trans (hb.mono h.b.size)) (fun k t cs _ hk => hb.block k (blk_lt hk))
theorem Fq.grown (h : Fq w W m code st) {row : Option Nat} (hg : W.grownBy W' row) (hr : ∀ k, row = some k → ∃ cs, W.heap[k]? = some (.cells cs 3 (0, 0))) (hb : Below w.heap.size w W') : Fq w W' m code st :=
  h.move hb (fun k t cs ht hk => hg.block k (blk_lt hk) (fun e => by
    obtain ⟨cs', hc⟩ := hr k e.symm
    rw [hk] at hc
    injection hc with hc
    injection hc with _ hc
    exact ht hc))
theorem Fq.set (h : Fq w W m code st) (i : Nat) (u : Value) {st' : Array Value} (e : st.setIfInBounds i u = st') : Fq w (W.setCell ⟨m, i, none⟩ u) m code st' :=
  ⟨blk_far h.k (p := ⟨m, i, none⟩) (by have := h.n3; show w.heap.size ≠ m; omega) u, blk_far h.o (p := ⟨m, i, none⟩) (by have := h.n3; show w.heap.size + 1 ≠ m; omega) u, blk_put h.s i u e, h.b.setCell (p := ⟨m, i, none⟩) (by have := h.n3; show w.heap.size ≤ m; omega) u, h.n3⟩
theorem Fq.drew (h : Fq w W m code st) : Fq w W.drew m code st := ⟨h.k, h.o, h.s, h.b.drew, h.n3⟩
theorem Fq.alloc (h : Fq w W m code st) (o : Obj) : Fq w (W.alloc o) m code st := h.below ((Below.refl _ _).alloc (Nat.le_refl _) o)
theorem Fq.so {v0 v1 v2 v3 v4 v5 v6 v7 v8 v9 : Value} (h : Fq w W m code #[v0, v1, v2, v3, v4, v5, v6, v7, v8, v9]) : W.cell? ⟨m, 0, none⟩ = some v0 ∧ W.cell? ⟨m, 1, none⟩ = some v1 ∧ W.cell? ⟨m, 2, none⟩ = some v2 ∧ W.cell? ⟨m, 3, none⟩ = some v3 ∧ W.cell? ⟨m, 4, none⟩ = some v4 ∧ W.cell? ⟨m, 5, none⟩ = some v5 ∧ W.cell? ⟨m, 6, none⟩ = some v6 ∧ W.cell? ⟨m, 7, none⟩ = some v7 ∧ W.cell? ⟨m, 8, none⟩ = some v8 ∧ W.cell? ⟨m, 9, none⟩ = some v9 :=
  ⟨(blk_cell h.s 0).trans rfl, (blk_cell h.s 1).trans rfl, (blk_cell h.s 2).trans rfl, (blk_cell h.s 3).trans rfl, (blk_cell h.s 4).trans rfl, (blk_cell h.s 5).trans rfl, (blk_cell h.s 6).trans rfl, (blk_cell h.s 7).trans rfl, (blk_cell h.s 8).trans rfl, (blk_cell h.s 9).trans rfl⟩
theorem Fq.sk {v0 v1 v2 : Value} (h : Fq w W m #[v0, v1, v2] st) : W.cell? ⟨w.heap.size, 0, none⟩ = some v0 ∧ W.cell? ⟨w.heap.size, 1, none⟩ = some v1 ∧ W.cell? ⟨w.heap.size, 2, none⟩ = some v2 :=
  ⟨(blk_cell h.k 0).trans rfl, (blk_cell h.k 1).trans rfl, (blk_cell h.k 2).trans rfl⟩
theorem Fq.sz (h : Fq w W m code st) : W.cell? ⟨w.heap.size + 1, 0, none⟩ = some (.slice none 0 0) ∧ W.cell? ⟨w.heap.size + 1, 1, none⟩ = some (.slice none 0 0) ∧ W.cell? ⟨w.heap.size + 1, 2, none⟩ = some (.int .i64 0) ∧ W.cell? ⟨w.heap.size + 1, 3, none⟩ = some (.int .i64 0) :=
  ⟨(blk_cell h.o 0).trans rfl, (blk_cell h.o 1).trans rfl, (blk_cell h.o 2).trans rfl, (blk_cell h.o 3).trans rfl⟩
theorem Fq.fo (h : Fq w W m code st) (i : Nat) : W.frozen? ⟨m, i, none⟩ = false := blk_frozen h.s i
theorem Fq.fz (h : Fq w W m code st) (i : Nat) : W.frozen? ⟨w.heap.size + 1, i, none⟩ = false := blk_frozen h.o i
end
/-- What the reference's Run hands back. -/
def RRun (w : World) (r : List Int × List Int × Int × Int × Int) (e : Ending) (w' : World) : Prop :=
  ∃ v0 v1 : Value, e = .returned (.tuple #[.agg #[v0, v1, .int .i64 r.2.2.1, .int .i64 r.2.2.2.1], .int .i64 r.2.2.2.2]) ∧ RD w' v0 r.1 ∧ RD w' v1 r.2.1 ∧ Below w.heap.size w w'
theorem results12 {o : Nat} {v0 v1 v2 v3 v4 : Value} (tmps : Array Value) (w : World) (h6 : tmps[6]? = some (.pointer (some ⟨o, 0, none⟩))) (h7 : tmps[7]? = some v4) (ho : w.heap[o]? = some (.cells #[v0, v1, v2, v3] 29 (0, 0))) : (results Tryd.f12 tmps).run Tryd.prog w = .ok (.tuple #[.agg #[v0, v1, v2, v3], v4]) w := by
  have c0 : w.cell? ⟨o, 0, none⟩ = some v0 := (blk_cell ho 0).trans rfl
  have c1 : w.cell? ⟨o, 1, none⟩ = some v1 := (blk_cell ho 1).trans rfl
  have c2 : w.cell? ⟨o, 2, none⟩ = some v2 := (blk_cell ho 2).trans rfl
  have c3 : w.cell? ⟨o, 3, none⟩ = some v3 := (blk_cell ho 3).trans rfl
  simp [results, Tryd.results12, go_sem, h6, h7, c0, c1, c2, c3]
theorem put4 {W : World} {g t : Nat} {z0 z1 z2 z3 : Value} (h : W.heap[g]? = some (.cells #[z0, z1, z2, z3] t (0, 0))) (v0 v1 v2 v3 : Value) : ((((W.setCell ⟨g, 0, none⟩ v0).setCell ⟨g, 1, none⟩ v1).setCell ⟨g, 2, none⟩ v2).setCell ⟨g, 3, none⟩ v3).heap[g]? = some (.cells #[v0, v1, v2, v3] t (0, 0)) := by
  have h0 := blk_put (cs' := #[v0, z1, z2, z3]) h 0 v0 rfl
  have h1 := blk_put (cs' := #[v0, v1, z2, z3]) h0 1 v1 rfl
  have h2 := blk_put (cs' := #[v0, v1, v2, z3]) h1 2 v2 rfl
  exact blk_put (cs' := #[v0, v1, v2, v3]) h2 3 v3 rfl
theorem below4 {base : Nat} {W0 W : World} {g : Nat} (h : Below base W0 W) (hg : base ≤ g) (v0 v1 v2 v3 : Value) : Below base W0 ((((W.setCell ⟨g, 0, none⟩ v0).setCell ⟨g, 1, none⟩ v1).setCell ⟨g, 2, none⟩ v2).setCell ⟨g, 3, none⟩ v3) :=
  (((h.setCell (p := ⟨g, 0, none⟩) hg _).setCell (p := ⟨g, 1, none⟩) hg _).setCell (p := ⟨g, 2, none⟩) hg _).setCell (p := ⟨g, 3, none⟩) hg _
/-- The failing end: the result zeroed, the error handed back. -/
theorem r_err {w W : World} (code : Int) (ho : W.heap[w.heap.size + 1]? = some (.cells outZ 29 (0, 0))) (hb : Below w.heap.size w W) (tmps : Array Value) (h6 : tmps[6]? = some (.pointer (some ⟨w.heap.size + 1, 0, none⟩))) (h7 : tmps[7]? = some (.int .i64 code)) :
    bodyPost Tryd.prog Tryd.f12 (RRun w ([], [], 0, 0, code)) .ret { tmps := tmps, defers := [] } ((((W.setCell ⟨w.heap.size + 1, 0, none⟩ (.slice none 0 0)).setCell ⟨w.heap.size + 1, 1, none⟩ (.slice none 0 0)).setCell ⟨w.heap.size + 1, 2, none⟩ (.int .i64 0)).setCell ⟨w.heap.size + 1, 3, none⟩ (.int .i64 0)) :=
  bodyPost_ret (results12 tmps _ h6 h7 (put4 ho (.slice none 0 0) (.slice none 0 0) (.int .i64 0) (.int .i64 0))) rfl ⟨_, _, rfl, RD.nil _, RD.nil _, below4 hb (by omega) _ _ _ _⟩
theorem r_ok {w W : World} {v0 v1 : Value} (s : St) (ho : W.heap[w.heap.size + 1]? = some (.cells outZ 29 (0, 0))) (hb : Below w.heap.size w W) (h0 : RD W v0 s.pts) (h1 : RD W v1 s.notes) (tmps : Array Value) (h6 : tmps[6]? = some (.pointer (some ⟨w.heap.size + 1, 0, none⟩))) (h7 : tmps[7]? = some (.int .i64 0)) :
    bodyPost Tryd.prog Tryd.f12 (RRun w (s.pts, s.notes, s.fin, s.steps, 0)) .ret { tmps := tmps, defers := [] } ((((W.setCell ⟨w.heap.size + 1, 0, none⟩ v0).setCell ⟨w.heap.size + 1, 1, none⟩ v1).setCell ⟨w.heap.size + 1, 2, none⟩ (.int .i64 s.fin)).setCell ⟨w.heap.size + 1, 3, none⟩ (.int .i64 s.steps)) := by
  have hf : ∀ {v l}, RD W v l → RD ((((W.setCell ⟨w.heap.size + 1, 0, none⟩ v0).setCell ⟨w.heap.size + 1, 1, none⟩ v1).setCell ⟨w.heap.size + 1, 2, none⟩ (.int .i64 s.fin)).setCell ⟨w.heap.size + 1, 3, none⟩ (.int .i64 s.steps)) v l := fun {v l} h => by
    have a0 := blk_put (cs' := #[v0, .slice none 0 0, .int .i64 0, .int .i64 0]) ho 0 v0 rfl
    have a1 := blk_put (cs' := #[v0, v1, .int .i64 0, .int .i64 0]) a0 1 v1 rfl
    have a2 := blk_put (cs' := #[v0, v1, .int .i64 s.fin, .int .i64 0]) a1 2 (.int .i64 s.fin) rfl
    exact (((h.far ho (by decide) 0 v0).far a0 (by decide) 1 v1).far a1 (by decide) 2 _).far a2 (by decide) 3 _
  exact bodyPost_ret (results12 tmps _ h6 h7 (put4 ho v0 v1 (.int .i64 s.fin) (.int .i64 s.steps))) rfl ⟨v0, v1, rfl, hf h0, hf h1, below4 hb (by omega) _ _ _ _⟩
theorem pre_world2 (w : World) (oc oo : Obj) : ((w.alloc oc).alloc oo).heap[w.heap.size + 1]? = some oo ∧ ((w.alloc oc).alloc oo).heap[w.heap.size]? = some oc ∧ ((w.alloc oc).alloc oo).heap.size = w.heap.size + 2 ∧ Below w.heap.size w ((w.alloc oc).alloc oo) := by
  have s1 : (w.alloc oc).heap.size = w.heap.size + 1 := World.size_alloc _ _
  have s2 : ((w.alloc oc).alloc oo).heap.size = w.heap.size + 2 := by rw [World.size_alloc, s1]
  refine ⟨?_, ?_, s2, ?_⟩
  · rw [← s1]; exact heap_alloc_new _ _
  · rw [Below.heap_alloc _ _ _ (by omega)]; exact heap_alloc_new _ _
  · exact ((Below.refl _ _).alloc (Nat.le_refl _) _).alloc (by omega) _
set_option maxRecDepth 100000 in
set_option maxHeartbeats 8000000 in
theorem rrun_bad (A0_0 : Option Addr) (c0_0 : Nat) (l0_0 : List S42) (V P : Int) (A1 : Option Addr) (c1 : Nat) (l1 : List Int) (A2 : Option Addr) (c2 : Nat) (l2 : List Int) (w : World) (h : ¬ (0 ≤ P ∧ P ≤ 8 ∧ (l1.length : Int) ≤ V ∧ V ≤ 400)) :
    Calls Tryd.prog 12 #[.agg #[.slice A0_0 l0_0.length c0_0, .int .i64 V, .int .i64 P], .slice A1 l1.length c1, .slice A2 l2.length c2] w (RRun w ([], [], 0, 0, 1)) := by
  by_cases h1 : P < 0
  · have d1 : decide (P < 0) = true := decide_eq_true h1
    clear h
    have HPRE := Lib.hid (pre_world2 w (ocO A0_0 l0_0.length c0_0 V P) ooO)
    go_enter Tryd.func12, Tryd.ntmps12
    go_upto_region 1 with fail
    obtain ⟨ho, hc, hs2, hB⟩ := HPRE.out
    generalize hw2 : (w.alloc (.cells #[.slice A0_0 l0_0.length c0_0, .int .i64 V, .int .i64 P] 24)).alloc (.cells #[.slice none 0 0, .slice none 0 0, .int .i64 0, .int .i64 0] 29) = w2 at ho hc hs2 hB ⊢
    clear hw2 HPRE
    have k0 : w2.cell? ⟨w.heap.size, 0, none⟩ = some (.slice A0_0 l0_0.length c0_0) := (blk_cell hc 0).trans rfl
    have k1 : w2.cell? ⟨w.heap.size, 1, none⟩ = some (.int .i64 V) := (blk_cell hc 1).trans rfl
    have k2 : w2.cell? ⟨w.heap.size, 2, none⟩ = some (.int .i64 P) := (blk_cell hc 2).trans rfl
    have y0 : w2.cell? ⟨w.heap.size + 1, 0, none⟩ = some (.slice none 0 0) := (blk_cell ho 0).trans rfl
    have y1 : w2.cell? ⟨w.heap.size + 1, 1, none⟩ = some (.slice none 0 0) := (blk_cell ho 1).trans rfl
    have y2 : w2.cell? ⟨w.heap.size + 1, 2, none⟩ = some (.int .i64 0) := (blk_cell ho 2).trans rfl
    have y3 : w2.cell? ⟨w.heap.size + 1, 3, none⟩ = some (.int .i64 0) := (blk_cell ho 3).trans rfl
    have fz := blk_frozen ho
    have HO := Lib.hid ho
    have HC := Lib.hid hc
    have HB := Lib.hid hB
    clear ho hc hB
    go_wp2_with fail
    exact r_err 1 HO.out HB.out _ rfl rfl
  · have d1 : decide (P < 0) = false := decide_eq_false h1
    by_cases h2 : 8 < P
    · have d2 : decide (8 < P) = true := decide_eq_true h2
      clear h
      have HPRE := Lib.hid (pre_world2 w (ocO A0_0 l0_0.length c0_0 V P) ooO)
      go_enter Tryd.func12, Tryd.ntmps12
      go_upto_region 1 with fail
      obtain ⟨ho, hc, hs2, hB⟩ := HPRE.out
      generalize hw2 : (w.alloc (.cells #[.slice A0_0 l0_0.length c0_0, .int .i64 V, .int .i64 P] 24)).alloc (.cells #[.slice none 0 0, .slice none 0 0, .int .i64 0, .int .i64 0] 29) = w2 at ho hc hs2 hB ⊢
      clear hw2 HPRE
      have k0 : w2.cell? ⟨w.heap.size, 0, none⟩ = some (.slice A0_0 l0_0.length c0_0) := (blk_cell hc 0).trans rfl
      have k1 : w2.cell? ⟨w.heap.size, 1, none⟩ = some (.int .i64 V) := (blk_cell hc 1).trans rfl
      have k2 : w2.cell? ⟨w.heap.size, 2, none⟩ = some (.int .i64 P) := (blk_cell hc 2).trans rfl
      have y0 : w2.cell? ⟨w.heap.size + 1, 0, none⟩ = some (.slice none 0 0) := (blk_cell ho 0).trans rfl
      have y1 : w2.cell? ⟨w.heap.size + 1, 1, none⟩ = some (.slice none 0 0) := (blk_cell ho 1).trans rfl
      have y2 : w2.cell? ⟨w.heap.size + 1, 2, none⟩ = some (.int .i64 0) := (blk_cell ho 2).trans rfl
      have y3 : w2.cell? ⟨w.heap.size + 1, 3, none⟩ = some (.int .i64 0) := (blk_cell ho 3).trans rfl
      have fz := blk_frozen ho
      have HO := Lib.hid ho
      have HC := Lib.hid hc
      have HB := Lib.hid hB
      clear ho hc hB
      go_wp2_with fail
      exact r_err 1 HO.out HB.out _ rfl rfl
    · have d2 : decide (8 < P) = false := decide_eq_false h2
      by_cases h3 : V < (l1.length : Int)
      · have d3 : decide (V < (l1.length : Int)) = true := decide_eq_true h3
        clear h
        have HPRE := Lib.hid (pre_world2 w (ocO A0_0 l0_0.length c0_0 V P) ooO)
        go_enter Tryd.func12, Tryd.ntmps12
        go_upto_region 1 with fail
        obtain ⟨ho, hc, hs2, hB⟩ := HPRE.out
        generalize hw2 : (w.alloc (.cells #[.slice A0_0 l0_0.length c0_0, .int .i64 V, .int .i64 P] 24)).alloc (.cells #[.slice none 0 0, .slice none 0 0, .int .i64 0, .int .i64 0] 29) = w2 at ho hc hs2 hB ⊢
        clear hw2 HPRE
        have k0 : w2.cell? ⟨w.heap.size, 0, none⟩ = some (.slice A0_0 l0_0.length c0_0) := (blk_cell hc 0).trans rfl
        have k1 : w2.cell? ⟨w.heap.size, 1, none⟩ = some (.int .i64 V) := (blk_cell hc 1).trans rfl
        have k2 : w2.cell? ⟨w.heap.size, 2, none⟩ = some (.int .i64 P) := (blk_cell hc 2).trans rfl
        have y0 : w2.cell? ⟨w.heap.size + 1, 0, none⟩ = some (.slice none 0 0) := (blk_cell ho 0).trans rfl
        have y1 : w2.cell? ⟨w.heap.size + 1, 1, none⟩ = some (.slice none 0 0) := (blk_cell ho 1).trans rfl
        have y2 : w2.cell? ⟨w.heap.size + 1, 2, none⟩ = some (.int .i64 0) := (blk_cell ho 2).trans rfl
        have y3 : w2.cell? ⟨w.heap.size + 1, 3, none⟩ = some (.int .i64 0) := (blk_cell ho 3).trans rfl
        have fz := blk_frozen ho
        have HO := Lib.hid ho
        have HC := Lib.hid hc
        have HB := Lib.hid hB
        clear ho hc hB
        go_wp2_with fail
        exact r_err 1 HO.out HB.out _ rfl rfl
      · have d3 : decide (V < (l1.length : Int)) = false := decide_eq_false h3
        have d4 : decide (400 < V) = true := decide_eq_true (by omega)
        clear h
        have HPRE := Lib.hid (pre_world2 w (ocO A0_0 l0_0.length c0_0 V P) ooO)
        go_enter Tryd.func12, Tryd.ntmps12
        go_upto_region 1 with fail
        obtain ⟨ho, hc, hs2, hB⟩ := HPRE.out
        generalize hw2 : (w.alloc (.cells #[.slice A0_0 l0_0.length c0_0, .int .i64 V, .int .i64 P] 24)).alloc (.cells #[.slice none 0 0, .slice none 0 0, .int .i64 0, .int .i64 0] 29) = w2 at ho hc hs2 hB ⊢
        clear hw2 HPRE
        have k0 : w2.cell? ⟨w.heap.size, 0, none⟩ = some (.slice A0_0 l0_0.length c0_0) := (blk_cell hc 0).trans rfl
        have k1 : w2.cell? ⟨w.heap.size, 1, none⟩ = some (.int .i64 V) := (blk_cell hc 1).trans rfl
        have k2 : w2.cell? ⟨w.heap.size, 2, none⟩ = some (.int .i64 P) := (blk_cell hc 2).trans rfl
        have y0 : w2.cell? ⟨w.heap.size + 1, 0, none⟩ = some (.slice none 0 0) := (blk_cell ho 0).trans rfl
        have y1 : w2.cell? ⟨w.heap.size + 1, 1, none⟩ = some (.slice none 0 0) := (blk_cell ho 1).trans rfl
        have y2 : w2.cell? ⟨w.heap.size + 1, 2, none⟩ = some (.int .i64 0) := (blk_cell ho 2).trans rfl
        have y3 : w2.cell? ⟨w.heap.size + 1, 3, none⟩ = some (.int .i64 0) := (blk_cell ho 3).trans rfl
        have fz := blk_frozen ho
        have HO := Lib.hid ho
        have HC := Lib.hid hc
        have HB := Lib.hid hB
        clear ho hc hB
        go_wp2_with fail
        exact r_err 1 HO.out HB.out _ rfl rfl
end Go.Proofs.YtbgfkepnlpgagaaDoor.P
