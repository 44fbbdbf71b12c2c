/- The reference's step: its frame. -/
import Derived.Test.YtbgfkepnlpgagaaDoorV15
namespace Go.Proofs.YtbgfkepnlpgagaaDoor.P
open Go.RowKit Go.Proofs.YtbgfkepnlpgagaaDoorW.PrintWords Go.Proofs.YtbgfkepnlpgagaaDoorW.PrintLast Go.Proofs.YtbgfkepnlpgagaaDoorW.PrintMore
attribute [local go_sem] max2_int min2_int max_two min_two max_three min_three max_four min_four
set_option linter.unusedVariables false
set_option linter.unusedSimpArgs false
set_option maxHeartbeats 4000000
/-- A row that reads as l; its block is one of whole numbers. -/
def RD (w : World) (v : Value) (l : List Int) : Prop := ∃ A c, v = .slice A l.length c ∧ l.length ≤ c ∧ Kd.C (Kd.int .i64) w A l.length l ∧ ∀ ad, A = some ad → ∃ cs, w.heap[ad.block]? = some (.cells cs 3 (0, 0))
abbrev stC (pc : Int) (v s p n : Value) (fin steps br : Int) (d : Bool) (e : Int) : Array Value := #[.int .i64 pc, v, s, p, n, .int .i64 fin, .int .i64 steps, .int .i64 br, .bool d, .int .i64 e]
/-- What a step of the reference hands back. -/
def RLeft (w : World) (r : Except Int St) (e : Ending) (w' : World) : Prop :=
  ∃ (s' : St) (code : Int) (vv vs vp vn : Value), (match r with | .ok s1 => s' = s1 ∧ code = 0 | .error c => s'.done = false ∧ code = c ∧ c ≠ 0) ∧ e = .returned (.agg (stC s'.pc vv vs vp vn s'.fin s'.steps s'.br s'.done code)) ∧
    RD w' vv s'.vars ∧ RD w' vs s'.stack ∧ RD w' vp s'.pts ∧ RD w' vn s'.notes ∧ Below w.heap.size w w'
theorem results19 {b : Nat} {v0 v1 v2 v3 v4 v5 v6 v7 v8 v9 : Value} (tmps : Array Value) (w : World) (h6 : tmps[6]? = some (.pointer (some ⟨b, 0, none⟩))) (ho : w.heap[b]? = some (.cells #[v0, v1, v2, v3, v4, v5, v6, v7, v8, v9] 55 (0, 0))) : (results Tryd.f19 tmps).run Tryd.prog w = .ok (.agg #[v0, v1, v2, v3, v4, v5, v6, v7, v8, v9]) w := by
  have c0 : w.cell? ⟨b, 0, none⟩ = some v0 := (blk_cell ho 0).trans rfl
  have c1 : w.cell? ⟨b, 1, none⟩ = some v1 := (blk_cell ho 1).trans rfl
  have c2 : w.cell? ⟨b, 2, none⟩ = some v2 := (blk_cell ho 2).trans rfl
  have c3 : w.cell? ⟨b, 3, none⟩ = some v3 := (blk_cell ho 3).trans rfl
  have c4 : w.cell? ⟨b, 4, none⟩ = some v4 := (blk_cell ho 4).trans rfl
  have c5 : w.cell? ⟨b, 5, none⟩ = some v5 := (blk_cell ho 5).trans rfl
  have c6 : w.cell? ⟨b, 6, none⟩ = some v6 := (blk_cell ho 6).trans rfl
  have c7 : w.cell? ⟨b, 7, none⟩ = some v7 := (blk_cell ho 7).trans rfl
  have c8 : w.cell? ⟨b, 8, none⟩ = some v8 := (blk_cell ho 8).trans rfl
  have c9 : w.cell? ⟨b, 9, none⟩ = some v9 := (blk_cell ho 9).trans rfl
  simp [results, Tryd.results19, go_sem, h6, c0, c1, c2, c3, c4, c5, c6, c7, c8, c9]
theorem put10 {W : World} {g : Nat} {z0 z1 z2 z3 z4 z5 z6 z7 z8 z9 : Value} (h : W.heap[g]? = some (.cells #[z0, z1, z2, z3, z4, z5, z6, z7, z8, z9] 55 (0, 0))) (v0 v1 v2 v3 v4 v5 v6 v7 v8 v9 : Value) : ((((((((((W.setCell ⟨g, 0, none⟩ v0).setCell ⟨g, 1, none⟩ v1).setCell ⟨g, 2, none⟩ v2).setCell ⟨g, 3, none⟩ v3).setCell ⟨g, 4, none⟩ v4).setCell ⟨g, 5, none⟩ v5).setCell ⟨g, 6, none⟩ v6).setCell ⟨g, 7, none⟩ v7).setCell ⟨g, 8, none⟩ v8).setCell ⟨g, 9, none⟩ v9).heap[g]? = some (.cells #[v0, v1, v2, v3, v4, v5, v6, v7, v8, v9] 55 (0, 0)) := by
  have h0 := blk_put (cs' := #[v0, z1, z2, z3, z4, z5, z6, z7, z8, z9]) h 0 v0 rfl
  have h1 := blk_put (cs' := #[v0, v1, z2, z3, z4, z5, z6, z7, z8, z9]) h0 1 v1 rfl
  have h2 := blk_put (cs' := #[v0, v1, v2, z3, z4, z5, z6, z7, z8, z9]) h1 2 v2 rfl
  have h3 := blk_put (cs' := #[v0, v1, v2, v3, z4, z5, z6, z7, z8, z9]) h2 3 v3 rfl
  have h4 := blk_put (cs' := #[v0, v1, v2, v3, v4, z5, z6, z7, z8, z9]) h3 4 v4 rfl
  have h5 := blk_put (cs' := #[v0, v1, v2, v3, v4, v5, z6, z7, z8, z9]) h4 5 v5 rfl
  have h6 := blk_put (cs' := #[v0, v1, v2, v3, v4, v5, v6, z7, z8, z9]) h5 6 v6 rfl
  have h7 := blk_put (cs' := #[v0, v1, v2, v3, v4, v5, v6, v7, z8, z9]) h6 7 v7 rfl
  have h8 := blk_put (cs' := #[v0, v1, v2, v3, v4, v5, v6, v7, v8, z9]) h7 8 v8 rfl
  have h9 := blk_put (cs' := #[v0, v1, v2, v3, v4, v5, v6, v7, v8, v9]) h8 9 v9 rfl
  exact h9
theorem below10 {base : Nat} {W0 W : World} {g : Nat} (h : Below base W0 W) (hg : base ≤ g) (v0 v1 v2 v3 v4 v5 v6 v7 v8 v9 : Value) : Below base W0 ((((((((((W.setCell ⟨g, 0, none⟩ v0).setCell ⟨g, 1, none⟩ v1).setCell ⟨g, 2, none⟩ v2).setCell ⟨g, 3, none⟩ v3).setCell ⟨g, 4, none⟩ v4).setCell ⟨g, 5, none⟩ v5).setCell ⟨g, 6, none⟩ v6).setCell ⟨g, 7, none⟩ v7).setCell ⟨g, 8, none⟩ v8).setCell ⟨g, 9, none⟩ v9) :=
  ((((((((((h.setCell (p := ⟨g, 0, none⟩) hg _).setCell (p := ⟨g, 1, none⟩) hg _).setCell (p := ⟨g, 2, none⟩) hg _).setCell (p := ⟨g, 3, none⟩) hg _).setCell (p := ⟨g, 4, none⟩) hg _).setCell (p := ⟨g, 5, none⟩) hg _).setCell (p := ⟨g, 6, none⟩) hg _).setCell (p := ⟨g, 7, none⟩) hg _).setCell (p := ⟨g, 8, none⟩) hg _).setCell (p := ⟨g, 9, none⟩) hg _)
theorem own10 {W : World} {g b n : Nat} {v : Value} {xs : List Value} {cs : Array Value} (hb : W.heap[g]? = some (.cells cs 55 (0, 0))) (h : W.ownsRow b 3 1 v n xs) (v0 v1 v2 v3 v4 v5 v6 v7 v8 v9 : Value) : ((((((((((W.setCell ⟨g, 0, none⟩ v0).setCell ⟨g, 1, none⟩ v1).setCell ⟨g, 2, none⟩ v2).setCell ⟨g, 3, none⟩ v3).setCell ⟨g, 4, none⟩ v4).setCell ⟨g, 5, none⟩ v5).setCell ⟨g, 6, none⟩ v6).setCell ⟨g, 7, none⟩ v7).setCell ⟨g, 8, none⟩ v8).setCell ⟨g, 9, none⟩ v9).ownsRow b 3 1 v n xs := by
  have hk := own_ne hb (by decide) h
  exact own_far (own_far (own_far (own_far (own_far (own_far (own_far (own_far (own_far (own_far h hk) hk) hk) hk) hk) hk) hk) hk) hk) hk
theorem RD.of_own {w : World} {b : Nat} {v : Value} {l : List Int} (h : w.ownsRow b 3 1 v l.length (n64 l)) : RD w v l := by
  have hr : Kd.R (Kd.int .i64) 3 w b (fun _ => True) v l := Kd.R_of_own h (fun _ _ => trivial)
  obtain ⟨A, c, he, hc, hr⟩ := Kd.R_reads hr
  refine ⟨A, c, he, hc, hr, fun ad e => ?_⟩
  subst e
  rcases h.2 with ⟨h1, _⟩ | ⟨g, cap, cur, h1, _⟩
  · rw [h1] at he; cases he
  · rw [h1] at he
    injection he with he
    injection he with he
    subst he
    exact own_typed h g (by rw [h1]; rfl)
theorem RD.below {w w' : World} {v : Value} {l : List Int} (h : RD w v l) (hb : Below w.heap.size w w') : RD w' v l := by
  obtain ⟨A, c, he, hc, hr, ht⟩ := h
  refine ⟨A, c, he, hc, Kd.C_below hr hb, fun ad e => ?_⟩
  obtain ⟨cs, h1⟩ := ht ad e
  exact ⟨cs, (hb.block _ (blk_lt h1)).trans h1⟩
theorem RD.nil (w : World) : RD w (.slice none 0 0) [] := ⟨none, 0, rfl, Nat.le_refl _, ⟨rfl, Nat.zero_le _, fun h => absurd h (Nat.lt_irrefl _)⟩, fun ad e => by cases e⟩
theorem RD.far {w : World} {v : Value} {l : List Int} {g t : Nat} {cells : Array Value} (h : RD w v l) (hg : w.heap[g]? = some (.cells cells t (0, 0))) (ht : t ≠ 3) (i : Nat) (u : Value) : RD (w.setCell ⟨g, i, none⟩ u) v l := by
  obtain ⟨A, c, he, hc, hr, hty⟩ := h
  have hne : ∀ ad, A = some ad → ad.block ≠ g := fun ad e h1 => by
    obtain ⟨cs, h2⟩ := hty ad e
    rw [h1, hg] at h2
    injection h2 with h2
    injection h2 with _ h2
    exact ht h2
  refine ⟨A, c, he, hc, ⟨hr.1, hr.2.1, fun hp => ?_⟩, fun ad e => ?_⟩
  · obtain ⟨ad, e, h1⟩ := hr.2.2 hp
    refine ⟨ad, e, fun j p hj => ?_⟩
    obtain ⟨cs, h2, h3, h4⟩ := h1 j p hj
    refine ⟨cs, h2, h3, fun i' u' hu => ?_⟩
    rw [World.cell?_setCell_other _ _ _ _ (fun e2 => hne ad e (by
      have : (ad.add (j * (Kd.int .i64).sz + i')).block = ad.block := by unfold Addr.add; split <;> rfl
      rw [← this, ← e2]))]
    exact h4 i' u' hu
  · obtain ⟨cs, h1⟩ := hty ad e
    exact ⟨cs, (Below.heap_setCell w ⟨g, i, none⟩ u _ (hne ad e)).trans h1⟩
set_option maxHeartbeats 4000000
theorem err_end {w w3 : World} (s : St) (vA sA pA nA : Option Addr) (vC sC pC nC : Nat) (hv : RD w (.slice vA s.vars.length vC) s.vars) (hs : RD w (.slice sA s.stack.length sC) s.stack) (hp : RD w (.slice pA s.pts.length pC) s.pts) (hn : RD w (.slice nA s.notes.length nC) s.notes)
    (hz : w3.heap[w.heap.size + 1 + 1]? = some (.cells #[.int .i64 0, .slice none 0 0, .slice none 0 0, .slice none 0 0, .slice none 0 0, .int .i64 0, .int .i64 0, .int .i64 0, .bool false, .int .i64 0] 55)) (hB : Below w.heap.size w w3) (code : Int) (hc : code ≠ 0) (tmps : Array Value) (h6 : tmps[6]? = some (.pointer (some ⟨w.heap.size + 1 + 1, 0, none⟩))) :
    bodyPost Tryd.prog Tryd.f19 (RLeft w (.error code)) .ret { tmps := tmps, defers := [] } (((((((((((w3.setCell ⟨w.heap.size + 1, 9, none⟩ (.int .i64 code)).setCell ⟨w.heap.size + 1 + 1, 0, none⟩ (.int .i64 s.pc)).setCell ⟨w.heap.size + 1 + 1, 1, none⟩ (.slice vA s.vars.length vC)).setCell ⟨w.heap.size + 1 + 1, 2, none⟩ (.slice sA s.stack.length sC)).setCell ⟨w.heap.size + 1 + 1, 3, none⟩ (.slice pA s.pts.length pC)).setCell ⟨w.heap.size + 1 + 1, 4, none⟩ (.slice nA s.notes.length nC)).setCell ⟨w.heap.size + 1 + 1, 5, none⟩ (.int .i64 s.fin)).setCell ⟨w.heap.size + 1 + 1, 6, none⟩ (.int .i64 s.steps)).setCell ⟨w.heap.size + 1 + 1, 7, none⟩ (.int .i64 s.br)).setCell ⟨w.heap.size + 1 + 1, 8, none⟩ (.bool false)).setCell ⟨w.heap.size + 1 + 1, 9, none⟩ (.int .i64 code)) := by
  have hz1 := blk_far hz (p := ⟨w.heap.size + 1, 9, none⟩) (by simp) (.int .i64 code)
  have hb := below10 (hB.setCell (p := ⟨w.heap.size + 1, 9, none⟩) (by simp) (.int .i64 code)) (g := w.heap.size + 1 + 1) (by omega) (.int .i64 s.pc) (.slice vA s.vars.length vC) (.slice sA s.stack.length sC) (.slice pA s.pts.length pC) (.slice nA s.notes.length nC) (.int .i64 s.fin) (.int .i64 s.steps) (.int .i64 s.br) (.bool false) (.int .i64 code)
  exact bodyPost_ret (results19 tmps _ h6 (put10 hz1 (.int .i64 s.pc) (.slice vA s.vars.length vC) (.slice sA s.stack.length sC) (.slice pA s.pts.length pC) (.slice nA s.notes.length nC) (.int .i64 s.fin) (.int .i64 s.steps) (.int .i64 s.br) (.bool false) (.int .i64 code))) rfl ⟨{ s with done := false }, code, _, _, _, _, ⟨rfl, rfl, hc⟩, rfl, hv.below hb, hs.below hb, hp.below hb, hn.below hb, hb⟩
set_option maxRecDepth 100000 in
set_option maxHeartbeats 4000000 in
theorem rstep_fuel {w : World} (cA : Option Addr) (cC : Nat) (ins : List S42) (V P : Int) (s : St) (vA sA pA nA : Option Addr) (vC sC pC nC : Nat) (gA : Option Addr) (gC : Nat) (gl : List Int) (hr0 : Kd.C k42 w cA ins.length ins) (hv : RD w (.slice vA s.vars.length vC) s.vars) (hs : RD w (.slice sA s.stack.length sC) s.stack) (hp : RD w (.slice pA s.pts.length pC) s.pts) (hn : RD w (.slice nA s.notes.length nC) s.notes) (h3 : ¬ s.steps < 3000) :
    Calls Tryd.prog 19 #[.agg #[.slice cA ins.length cC, .int .i64 V, .int .i64 P], .agg (stC s.pc (.slice vA s.vars.length vC) (.slice sA s.stack.length sC) (.slice pA s.pts.length pC) (.slice nA s.notes.length nC) s.fin s.steps s.br false 0), .slice gA gl.length gC] w (RLeft w (.error 20)) := by
  have hd : decide (3000 ≤ s.steps) = true := decide_eq_true (by omega)
  clear h3
  have HV := Lib.hid hv
  have HS := Lib.hid hs
  have HP := Lib.hid hp
  have HN := Lib.hid hn
  have HR0 := Lib.hid hr0
  have HPRE := Lib.hid (pre_world w (.cells #[.slice cA ins.length cC, .int .i64 V, .int .i64 P] 24) (.cells #[.int .i64 s.pc, .slice vA s.vars.length vC, .slice sA s.stack.length sC, .slice pA s.pts.length pC, .slice nA s.notes.length nC, .int .i64 s.fin, .int .i64 s.steps, .int .i64 s.br, .bool false, .int .i64 0] 55) (.cells #[.int .i64 0, .slice none 0 0, .slice none 0 0, .slice none 0 0, .slice none 0 0, .int .i64 0, .int .i64 0, .int .i64 0, .bool false, .int .i64 0] 55))
  clear hv hs hp hn hr0
  go_enter Tryd.func19, Tryd.ntmps19
  go_upto_region 1 with fail
  obtain ⟨ho, hz, hc, hs3, hB⟩ := HPRE.out
  generalize hw3 : ((w.alloc (.cells #[.slice cA ins.length cC, .int .i64 V, .int .i64 P] 24)).alloc (.cells #[.int .i64 s.pc, .slice vA s.vars.length vC, .slice sA s.stack.length sC, .slice pA s.pts.length pC, .slice nA s.notes.length nC, .int .i64 s.fin, .int .i64 s.steps, .int .i64 s.br, .bool false, .int .i64 0] 55)).alloc (.cells #[.int .i64 0, .slice none 0 0, .slice none 0 0, .slice none 0 0, .slice none 0 0, .int .i64 0, .int .i64 0, .int .i64 0, .bool false, .int .i64 0] 55) = w3 at ho hz hc hs3 hB ⊢
  clear hw3 HPRE
  have c0 : w3.cell? ⟨w.heap.size + 1, 0, none⟩ = some (.int .i64 s.pc) := (blk_cell ho 0).trans rfl
  have c1 : w3.cell? ⟨w.heap.size + 1, 1, none⟩ = some (.slice vA s.vars.length vC) := (blk_cell ho 1).trans rfl
  have c2 : w3.cell? ⟨w.heap.size + 1, 2, none⟩ = some (.slice sA s.stack.length sC) := (blk_cell ho 2).trans rfl
  have c3 : w3.cell? ⟨w.heap.size + 1, 3, none⟩ = some (.slice pA s.pts.length pC) := (blk_cell ho 3).trans rfl
  have c4 : w3.cell? ⟨w.heap.size + 1, 4, none⟩ = some (.slice nA s.notes.length nC) := (blk_cell ho 4).trans rfl
  have c5 : w3.cell? ⟨w.heap.size + 1, 5, none⟩ = some (.int .i64 s.fin) := (blk_cell ho 5).trans rfl
  have c6 : w3.cell? ⟨w.heap.size + 1, 6, none⟩ = some (.int .i64 s.steps) := (blk_cell ho 6).trans rfl
  have c7 : w3.cell? ⟨w.heap.size + 1, 7, none⟩ = some (.int .i64 s.br) := (blk_cell ho 7).trans rfl
  have c8 : w3.cell? ⟨w.heap.size + 1, 8, none⟩ = some (.bool false) := (blk_cell ho 8).trans rfl
  have c9 : w3.cell? ⟨w.heap.size + 1, 9, none⟩ = some (.int .i64 0) := (blk_cell ho 9).trans rfl
  have y0 : w3.cell? ⟨w.heap.size + 1 + 1, 0, none⟩ = some (.int .i64 0) := (blk_cell hz 0).trans rfl
  have y1 : w3.cell? ⟨w.heap.size + 1 + 1, 1, none⟩ = some (.slice none 0 0) := (blk_cell hz 1).trans rfl
  have y2 : w3.cell? ⟨w.heap.size + 1 + 1, 2, none⟩ = some (.slice none 0 0) := (blk_cell hz 2).trans rfl
  have y3 : w3.cell? ⟨w.heap.size + 1 + 1, 3, none⟩ = some (.slice none 0 0) := (blk_cell hz 3).trans rfl
  have y4 : w3.cell? ⟨w.heap.size + 1 + 1, 4, none⟩ = some (.slice none 0 0) := (blk_cell hz 4).trans rfl
  have y5 : w3.cell? ⟨w.heap.size + 1 + 1, 5, none⟩ = some (.int .i64 0) := (blk_cell hz 5).trans rfl
  have y6 : w3.cell? ⟨w.heap.size + 1 + 1, 6, none⟩ = some (.int .i64 0) := (blk_cell hz 6).trans rfl
  have y7 : w3.cell? ⟨w.heap.size + 1 + 1, 7, none⟩ = some (.int .i64 0) := (blk_cell hz 7).trans rfl
  have y8 : w3.cell? ⟨w.heap.size + 1 + 1, 8, none⟩ = some (.bool false) := (blk_cell hz 8).trans rfl
  have y9 : w3.cell? ⟨w.heap.size + 1 + 1, 9, none⟩ = some (.int .i64 0) := (blk_cell hz 9).trans rfl
  have k0 : w3.cell? ⟨w.heap.size, 0, none⟩ = some (.slice cA ins.length cC) := (blk_cell hc 0).trans rfl
  have k1 : w3.cell? ⟨w.heap.size, 1, none⟩ = some (.int .i64 V) := (blk_cell hc 1).trans rfl
  have k2 : w3.cell? ⟨w.heap.size, 2, none⟩ = some (.int .i64 P) := (blk_cell hc 2).trans rfl
  have fo := blk_frozen ho
  have fz := blk_frozen hz
  have HO := Lib.hid ho
  have HZ := Lib.hid hz
  have HCD := Lib.hid hc
  have HB := Lib.hid hB
  clear ho hz hc hB hs3
  go_wp2_with fail
  exact err_end s vA sA pA nA vC sC pC nC HV.out HS.out HP.out HN.out HZ.out HB.out 20 (by decide) _ rfl
set_option maxRecDepth 100000 in
set_option maxHeartbeats 4000000 in
theorem rstep_pc {w : World} (cA : Option Addr) (cC : Nat) (ins : List S42) (V P : Int) (s : St) (vA sA pA nA : Option Addr) (vC sC pC nC : Nat) (gA : Option Addr) (gC : Nat) (gl : List Int) (hr0 : Kd.C k42 w cA ins.length ins) (hv : RD w (.slice vA s.vars.length vC) s.vars) (hs : RD w (.slice sA s.stack.length sC) s.stack) (hp : RD w (.slice pA s.pts.length pC) s.pts) (hn : RD w (.slice nA s.notes.length nC) s.notes) (h3 : s.steps < 3000) (hpc : ¬ (0 ≤ s.pc ∧ s.pc < (ins.length : Int))) :
    Calls Tryd.prog 19 #[.agg #[.slice cA ins.length cC, .int .i64 V, .int .i64 P], .agg (stC s.pc (.slice vA s.vars.length vC) (.slice sA s.stack.length sC) (.slice pA s.pts.length pC) (.slice nA s.notes.length nC) s.fin s.steps s.br false 0), .slice gA gl.length gC] w (RLeft w (.error 21)) := by
  have hd : decide (3000 ≤ s.steps) = false := decide_eq_false (by omega)
  clear h3
  by_cases hp0 : s.pc < 0
  · have hd1 : decide (s.pc < 0) = true := decide_eq_true hp0
    clear hpc
    have HV := Lib.hid hv
    have HS := Lib.hid hs
    have HP := Lib.hid hp
    have HN := Lib.hid hn
    have HR0 := Lib.hid hr0
    have HPRE := Lib.hid (pre_world w (.cells #[.slice cA ins.length cC, .int .i64 V, .int .i64 P] 24) (.cells #[.int .i64 s.pc, .slice vA s.vars.length vC, .slice sA s.stack.length sC, .slice pA s.pts.length pC, .slice nA s.notes.length nC, .int .i64 s.fin, .int .i64 s.steps, .int .i64 s.br, .bool false, .int .i64 0] 55) (.cells #[.int .i64 0, .slice none 0 0, .slice none 0 0, .slice none 0 0, .slice none 0 0, .int .i64 0, .int .i64 0, .int .i64 0, .bool false, .int .i64 0] 55))
    clear hv hs hp hn hr0
    go_enter Tryd.func19, Tryd.ntmps19
    go_upto_region 1 with fail
    obtain ⟨ho, hz, hc, hs3, hB⟩ := HPRE.out
    generalize hw3 : ((w.alloc (.cells #[.slice cA ins.length cC, .int .i64 V, .int .i64 P] 24)).alloc (.cells #[.int .i64 s.pc, .slice vA s.vars.length vC, .slice sA s.stack.length sC, .slice pA s.pts.length pC, .slice nA s.notes.length nC, .int .i64 s.fin, .int .i64 s.steps, .int .i64 s.br, .bool false, .int .i64 0] 55)).alloc (.cells #[.int .i64 0, .slice none 0 0, .slice none 0 0, .slice none 0 0, .slice none 0 0, .int .i64 0, .int .i64 0, .int .i64 0, .bool false, .int .i64 0] 55) = w3 at ho hz hc hs3 hB ⊢
    clear hw3 HPRE
    have c0 : w3.cell? ⟨w.heap.size + 1, 0, none⟩ = some (.int .i64 s.pc) := (blk_cell ho 0).trans rfl
    have c1 : w3.cell? ⟨w.heap.size + 1, 1, none⟩ = some (.slice vA s.vars.length vC) := (blk_cell ho 1).trans rfl
    have c2 : w3.cell? ⟨w.heap.size + 1, 2, none⟩ = some (.slice sA s.stack.length sC) := (blk_cell ho 2).trans rfl
    have c3 : w3.cell? ⟨w.heap.size + 1, 3, none⟩ = some (.slice pA s.pts.length pC) := (blk_cell ho 3).trans rfl
    have c4 : w3.cell? ⟨w.heap.size + 1, 4, none⟩ = some (.slice nA s.notes.length nC) := (blk_cell ho 4).trans rfl
    have c5 : w3.cell? ⟨w.heap.size + 1, 5, none⟩ = some (.int .i64 s.fin) := (blk_cell ho 5).trans rfl
    have c6 : w3.cell? ⟨w.heap.size + 1, 6, none⟩ = some (.int .i64 s.steps) := (blk_cell ho 6).trans rfl
    have c7 : w3.cell? ⟨w.heap.size + 1, 7, none⟩ = some (.int .i64 s.br) := (blk_cell ho 7).trans rfl
    have c8 : w3.cell? ⟨w.heap.size + 1, 8, none⟩ = some (.bool false) := (blk_cell ho 8).trans rfl
    have c9 : w3.cell? ⟨w.heap.size + 1, 9, none⟩ = some (.int .i64 0) := (blk_cell ho 9).trans rfl
    have y0 : w3.cell? ⟨w.heap.size + 1 + 1, 0, none⟩ = some (.int .i64 0) := (blk_cell hz 0).trans rfl
    have y1 : w3.cell? ⟨w.heap.size + 1 + 1, 1, none⟩ = some (.slice none 0 0) := (blk_cell hz 1).trans rfl
    have y2 : w3.cell? ⟨w.heap.size + 1 + 1, 2, none⟩ = some (.slice none 0 0) := (blk_cell hz 2).trans rfl
    have y3 : w3.cell? ⟨w.heap.size + 1 + 1, 3, none⟩ = some (.slice none 0 0) := (blk_cell hz 3).trans rfl
    have y4 : w3.cell? ⟨w.heap.size + 1 + 1, 4, none⟩ = some (.slice none 0 0) := (blk_cell hz 4).trans rfl
    have y5 : w3.cell? ⟨w.heap.size + 1 + 1, 5, none⟩ = some (.int .i64 0) := (blk_cell hz 5).trans rfl
    have y6 : w3.cell? ⟨w.heap.size + 1 + 1, 6, none⟩ = some (.int .i64 0) := (blk_cell hz 6).trans rfl
    have y7 : w3.cell? ⟨w.heap.size + 1 + 1, 7, none⟩ = some (.int .i64 0) := (blk_cell hz 7).trans rfl
    have y8 : w3.cell? ⟨w.heap.size + 1 + 1, 8, none⟩ = some (.bool false) := (blk_cell hz 8).trans rfl
    have y9 : w3.cell? ⟨w.heap.size + 1 + 1, 9, none⟩ = some (.int .i64 0) := (blk_cell hz 9).trans rfl
    have k0 : w3.cell? ⟨w.heap.size, 0, none⟩ = some (.slice cA ins.length cC) := (blk_cell hc 0).trans rfl
    have k1 : w3.cell? ⟨w.heap.size, 1, none⟩ = some (.int .i64 V) := (blk_cell hc 1).trans rfl
    have k2 : w3.cell? ⟨w.heap.size, 2, none⟩ = some (.int .i64 P) := (blk_cell hc 2).trans rfl
    have fo := blk_frozen ho
    have fz := blk_frozen hz
    have HO := Lib.hid ho
    have HZ := Lib.hid hz
    have HCD := Lib.hid hc
    have HB := Lib.hid hB
    clear ho hz hc hB hs3
    go_wp2_with fail
    exact err_end s vA sA pA nA vC sC pC nC HV.out HS.out HP.out HN.out HZ.out HB.out 21 (by decide) _ rfl
  · have hd1 : decide (s.pc < 0) = false := decide_eq_false hp0
    have hd2 : decide ((ins.length : Int) ≤ s.pc) = true := decide_eq_true (by omega)
    clear hpc hp0
    have HV := Lib.hid hv
    have HS := Lib.hid hs
    have HP := Lib.hid hp
    have HN := Lib.hid hn
    have HR0 := Lib.hid hr0
    have HPRE := Lib.hid (pre_world w (.cells #[.slice cA ins.length cC, .int .i64 V, .int .i64 P] 24) (.cells #[.int .i64 s.pc, .slice vA s.vars.length vC, .slice sA s.stack.length sC, .slice pA s.pts.length pC, .slice nA s.notes.length nC, .int .i64 s.fin, .int .i64 s.steps, .int .i64 s.br, .bool false, .int .i64 0] 55) (.cells #[.int .i64 0, .slice none 0 0, .slice none 0 0, .slice none 0 0, .slice none 0 0, .int .i64 0, .int .i64 0, .int .i64 0, .bool false, .int .i64 0] 55))
    clear hv hs hp hn hr0
    go_enter Tryd.func19, Tryd.ntmps19
    go_upto_region 1 with fail
    obtain ⟨ho, hz, hc, hs3, hB⟩ := HPRE.out
    generalize hw3 : ((w.alloc (.cells #[.slice cA ins.length cC, .int .i64 V, .int .i64 P] 24)).alloc (.cells #[.int .i64 s.pc, .slice vA s.vars.length vC, .slice sA s.stack.length sC, .slice pA s.pts.length pC, .slice nA s.notes.length nC, .int .i64 s.fin, .int .i64 s.steps, .int .i64 s.br, .bool false, .int .i64 0] 55)).alloc (.cells #[.int .i64 0, .slice none 0 0, .slice none 0 0, .slice none 0 0, .slice none 0 0, .int .i64 0, .int .i64 0, .int .i64 0, .bool false, .int .i64 0] 55) = w3 at ho hz hc hs3 hB ⊢
    clear hw3 HPRE
    have c0 : w3.cell? ⟨w.heap.size + 1, 0, none⟩ = some (.int .i64 s.pc) := (blk_cell ho 0).trans rfl
    have c1 : w3.cell? ⟨w.heap.size + 1, 1, none⟩ = some (.slice vA s.vars.length vC) := (blk_cell ho 1).trans rfl
    have c2 : w3.cell? ⟨w.heap.size + 1, 2, none⟩ = some (.slice sA s.stack.length sC) := (blk_cell ho 2).trans rfl
    have c3 : w3.cell? ⟨w.heap.size + 1, 3, none⟩ = some (.slice pA s.pts.length pC) := (blk_cell ho 3).trans rfl
    have c4 : w3.cell? ⟨w.heap.size + 1, 4, none⟩ = some (.slice nA s.notes.length nC) := (blk_cell ho 4).trans rfl
    have c5 : w3.cell? ⟨w.heap.size + 1, 5, none⟩ = some (.int .i64 s.fin) := (blk_cell ho 5).trans rfl
    have c6 : w3.cell? ⟨w.heap.size + 1, 6, none⟩ = some (.int .i64 s.steps) := (blk_cell ho 6).trans rfl
    have c7 : w3.cell? ⟨w.heap.size + 1, 7, none⟩ = some (.int .i64 s.br) := (blk_cell ho 7).trans rfl
    have c8 : w3.cell? ⟨w.heap.size + 1, 8, none⟩ = some (.bool false) := (blk_cell ho 8).trans rfl
    have c9 : w3.cell? ⟨w.heap.size + 1, 9, none⟩ = some (.int .i64 0) := (blk_cell ho 9).trans rfl
    have y0 : w3.cell? ⟨w.heap.size + 1 + 1, 0, none⟩ = some (.int .i64 0) := (blk_cell hz 0).trans rfl
    have y1 : w3.cell? ⟨w.heap.size + 1 + 1, 1, none⟩ = some (.slice none 0 0) := (blk_cell hz 1).trans rfl
    have y2 : w3.cell? ⟨w.heap.size + 1 + 1, 2, none⟩ = some (.slice none 0 0) := (blk_cell hz 2).trans rfl
    have y3 : w3.cell? ⟨w.heap.size + 1 + 1, 3, none⟩ = some (.slice none 0 0) := (blk_cell hz 3).trans rfl
    have y4 : w3.cell? ⟨w.heap.size + 1 + 1, 4, none⟩ = some (.slice none 0 0) := (blk_cell hz 4).trans rfl
    have y5 : w3.cell? ⟨w.heap.size + 1 + 1, 5, none⟩ = some (.int .i64 0) := (blk_cell hz 5).trans rfl
    have y6 : w3.cell? ⟨w.heap.size + 1 + 1, 6, none⟩ = some (.int .i64 0) := (blk_cell hz 6).trans rfl
    have y7 : w3.cell? ⟨w.heap.size + 1 + 1, 7, none⟩ = some (.int .i64 0) := (blk_cell hz 7).trans rfl
    have y8 : w3.cell? ⟨w.heap.size + 1 + 1, 8, none⟩ = some (.bool false) := (blk_cell hz 8).trans rfl
    have y9 : w3.cell? ⟨w.heap.size + 1 + 1, 9, none⟩ = some (.int .i64 0) := (blk_cell hz 9).trans rfl
    have k0 : w3.cell? ⟨w.heap.size, 0, none⟩ = some (.slice cA ins.length cC) := (blk_cell hc 0).trans rfl
    have k1 : w3.cell? ⟨w.heap.size, 1, none⟩ = some (.int .i64 V) := (blk_cell hc 1).trans rfl
    have k2 : w3.cell? ⟨w.heap.size, 2, none⟩ = some (.int .i64 P) := (blk_cell hc 2).trans rfl
    have fo := blk_frozen ho
    have fz := blk_frozen hz
    have HO := Lib.hid ho
    have HZ := Lib.hid hz
    have HCD := Lib.hid hc
    have HB := Lib.hid hB
    clear ho hz hc hB hs3
    go_wp2_with fail
    exact err_end s vA sA pA nA vC sC pC nC HV.out HS.out HP.out HN.out HZ.out HB.out 21 (by decide) _ rfl
set_option maxRecDepth 100000 in
set_option maxHeartbeats 4000000 in
theorem rstep_bad_op {w : World} (cA : Option Addr) (cC : Nat) (ins : List S42) (V P : Int) (s : St) (vA sA pA nA : Option Addr) (vC sC pC nC : Nat) (gA : Option Addr) (gC : Nat) (gl : List Int) (hr0 : Kd.C k42 w cA ins.length ins) (hv : RD w (.slice vA s.vars.length vC) s.vars) (hs : RD w (.slice sA s.stack.length sC) s.stack) (hp : RD w (.slice pA s.pts.length pC) s.pts) (hn : RD w (.slice nA s.notes.length nC) s.notes) (h3 : s.steps < 3000) (n : Nat) (hnL : n < ins.length) (op a b : Int) (hop : (insF ins n) = (op, a, b)) (ho : ¬ (1 ≤ op ∧ op < 18)) :
    Calls Tryd.prog 19 #[.agg #[.slice cA ins.length cC, .int .i64 V, .int .i64 P], .agg (stC (n : Nat) (.slice vA s.vars.length vC) (.slice sA s.stack.length sC) (.slice pA s.pts.length pC) (.slice nA s.notes.length nC) s.fin s.steps s.br false 0), .slice gA gl.length gC] w (RLeft w (.error 21)) := by
  have hd : decide (3000 ≤ s.steps) = false := decide_eq_false (by omega)
  have hd1 : decide ((n : Int) < 0) = false := decide_eq_false (by omega)
  have hd2 : decide (ins.length ≤ n) = false := decide_eq_false (by omega)
  have e2 : (op == 2) = false := by simp; omega
  have e3 : (op == 3) = false := by simp; omega
  have e12 : (op == 12) = false := by simp; omega
  have e17 : (op == 17) = false := by simp; omega
  have HV := Lib.hid hv
  have HS := Lib.hid hs
  have HP := Lib.hid hp
  have HN := Lib.hid hn
  have HR0 := Lib.hid hr0
  have HPRE := Lib.hid (pre_world w (.cells #[.slice cA ins.length cC, .int .i64 V, .int .i64 P] 24) (.cells #[.int .i64 (n : Nat), .slice vA s.vars.length vC, .slice sA s.stack.length sC, .slice pA s.pts.length pC, .slice nA s.notes.length nC, .int .i64 s.fin, .int .i64 s.steps, .int .i64 s.br, .bool false, .int .i64 0] 55) (.cells #[.int .i64 0, .slice none 0 0, .slice none 0 0, .slice none 0 0, .slice none 0 0, .int .i64 0, .int .i64 0, .int .i64 0, .bool false, .int .i64 0] 55))
  clear hv hs hp hn hr0
  go_enter Tryd.func19, Tryd.ntmps19
  go_upto_region 1 with fail
  obtain ⟨ho, hz, hc, hs3, hB⟩ := HPRE.out
  generalize hw3 : ((w.alloc (.cells #[.slice cA ins.length cC, .int .i64 V, .int .i64 P] 24)).alloc (.cells #[.int .i64 (n : Nat), .slice vA s.vars.length vC, .slice sA s.stack.length sC, .slice pA s.pts.length pC, .slice nA s.notes.length nC, .int .i64 s.fin, .int .i64 s.steps, .int .i64 s.br, .bool false, .int .i64 0] 55)).alloc (.cells #[.int .i64 0, .slice none 0 0, .slice none 0 0, .slice none 0 0, .slice none 0 0, .int .i64 0, .int .i64 0, .int .i64 0, .bool false, .int .i64 0] 55) = w3 at ho hz hc hs3 hB ⊢
  clear hw3 HPRE
  have c0 : w3.cell? ⟨w.heap.size + 1, 0, none⟩ = some (.int .i64 (n : Nat)) := (blk_cell ho 0).trans rfl
  have c1 : w3.cell? ⟨w.heap.size + 1, 1, none⟩ = some (.slice vA s.vars.length vC) := (blk_cell ho 1).trans rfl
  have c2 : w3.cell? ⟨w.heap.size + 1, 2, none⟩ = some (.slice sA s.stack.length sC) := (blk_cell ho 2).trans rfl
  have c3 : w3.cell? ⟨w.heap.size + 1, 3, none⟩ = some (.slice pA s.pts.length pC) := (blk_cell ho 3).trans rfl
  have c4 : w3.cell? ⟨w.heap.size + 1, 4, none⟩ = some (.slice nA s.notes.length nC) := (blk_cell ho 4).trans rfl
  have c5 : w3.cell? ⟨w.heap.size + 1, 5, none⟩ = some (.int .i64 s.fin) := (blk_cell ho 5).trans rfl
  have c6 : w3.cell? ⟨w.heap.size + 1, 6, none⟩ = some (.int .i64 s.steps) := (blk_cell ho 6).trans rfl
  have c7 : w3.cell? ⟨w.heap.size + 1, 7, none⟩ = some (.int .i64 s.br) := (blk_cell ho 7).trans rfl
  have c8 : w3.cell? ⟨w.heap.size + 1, 8, none⟩ = some (.bool false) := (blk_cell ho 8).trans rfl
  have c9 : w3.cell? ⟨w.heap.size + 1, 9, none⟩ = some (.int .i64 0) := (blk_cell ho 9).trans rfl
  have y0 : w3.cell? ⟨w.heap.size + 1 + 1, 0, none⟩ = some (.int .i64 0) := (blk_cell hz 0).trans rfl
  have y1 : w3.cell? ⟨w.heap.size + 1 + 1, 1, none⟩ = some (.slice none 0 0) := (blk_cell hz 1).trans rfl
  have y2 : w3.cell? ⟨w.heap.size + 1 + 1, 2, none⟩ = some (.slice none 0 0) := (blk_cell hz 2).trans rfl
  have y3 : w3.cell? ⟨w.heap.size + 1 + 1, 3, none⟩ = some (.slice none 0 0) := (blk_cell hz 3).trans rfl
  have y4 : w3.cell? ⟨w.heap.size + 1 + 1, 4, none⟩ = some (.slice none 0 0) := (blk_cell hz 4).trans rfl
  have y5 : w3.cell? ⟨w.heap.size + 1 + 1, 5, none⟩ = some (.int .i64 0) := (blk_cell hz 5).trans rfl
  have y6 : w3.cell? ⟨w.heap.size + 1 + 1, 6, none⟩ = some (.int .i64 0) := (blk_cell hz 6).trans rfl
  have y7 : w3.cell? ⟨w.heap.size + 1 + 1, 7, none⟩ = some (.int .i64 0) := (blk_cell hz 7).trans rfl
  have y8 : w3.cell? ⟨w.heap.size + 1 + 1, 8, none⟩ = some (.bool false) := (blk_cell hz 8).trans rfl
  have y9 : w3.cell? ⟨w.heap.size + 1 + 1, 9, none⟩ = some (.int .i64 0) := (blk_cell hz 9).trans rfl
  have k0 : w3.cell? ⟨w.heap.size, 0, none⟩ = some (.slice cA ins.length cC) := (blk_cell hc 0).trans rfl
  have k1 : w3.cell? ⟨w.heap.size, 1, none⟩ = some (.int .i64 V) := (blk_cell hc 1).trans rfl
  have k2 : w3.cell? ⟨w.heap.size, 2, none⟩ = some (.int .i64 P) := (blk_cell hc 2).trans rfl
  have fo := blk_frozen ho
  have fz := blk_frozen hz
  have HO := Lib.hid ho
  have HZ := Lib.hid hz
  have HCD := Lib.hid hc
  have HB := Lib.hid hB
  clear ho hz hc hB hs3
  obtain ⟨ad, hcA, hi0, hi1, hi2⟩ := at_T42 (Kd.C_below HR0.out HB.out) (n : Int) (by omega) (by omega)
  rw [Int.toNat_natCast] at hi0 hi1 hi2
  subst hcA
  have ei0 : w3.cell? (ad.add (n * 3)) = some (.int .i64 op) := hi0.trans (by rw [show (rd_T42 ins n).f0 = op from congrArg (·.1) hop])
  have ei1 : w3.cell? ⟨(ad.add (n * 3)).block, (ad.add (n * 3)).off + 1, none⟩ = some (.int .i64 a) := hi1.trans (by rw [show (rd_T42 ins n).f1 = a from congrArg (·.2.1) hop])
  have ei2 : w3.cell? ⟨(ad.add (n * 3)).block, (ad.add (n * 3)).off + 2, none⟩ = some (.int .i64 b) := hi2.trans (by rw [show (rd_T42 ins n).f2 = b from congrArg (·.2.2) hop])
  clear hi0 hi1 hi2 hop
  go_wp2_with fail
  refine (pops_no op _ ho).mono ?_
  rintro e w' ⟨rfl, rfl⟩
  have HO4 := Lib.hid ((Below.heap_alloc w3 (.cells #[.int .i64 op, .int .i64 a, .int .i64 b] 42) _ (blk_lt HO.out)).trans HO.out)
  have HZ4 := Lib.hid ((Below.heap_alloc w3 (.cells #[.int .i64 op, .int .i64 a, .int .i64 b] 42) _ (blk_lt HZ.out)).trans HZ.out)
  have HC4 := Lib.hid ((Below.heap_alloc w3 (.cells #[.int .i64 op, .int .i64 a, .int .i64 b] 42) _ (blk_lt HCD.out)).trans HCD.out)
  have HI := Lib.hid (heap_alloc_new w3 (.cells #[.int .i64 op, .int .i64 a, .int .i64 b] 42))
  have HB4 := Lib.hid (HB.out.alloc HB.out.size (.cells #[.int .i64 op, .int .i64 a, .int .i64 b] 42))
  have hgo : w3.heap.size ≠ w.heap.size + 1 := fun e => absurd (blk_lt HO.out) (by omega)
  have hgz : w3.heap.size ≠ w.heap.size + 1 + 1 := fun e => absurd (blk_lt HZ.out) (by omega)
  have hgl : w.heap.size ≤ w3.heap.size := HB.out.size
  clear c0 y0 c1 y1 c2 y2 c3 y3 c4 y4 c5 y5 c6 y6 c7 y7 c8 y8 c9 y9 k0 k1 k2 fo fz ei0 ei1 ei2 HO HZ HCD HB
  have HO := HO4
  have HZ := HZ4
  have HCD := HC4
  have HB := HB4
  clear HO4 HZ4 HC4 HB4
  generalize w3.heap.size = gi at HI hgo hgz hgl ⊢
  generalize w3.alloc (.cells #[.int .i64 op, .int .i64 a, .int .i64 b] 42) = w4 at HO HZ HCD HB HI ⊢
  have c0 : w4.cell? ⟨w.heap.size + 1, 0, none⟩ = some (.int .i64 (n : Nat)) := (blk_cell HO.out 0).trans rfl
  have c1 : w4.cell? ⟨w.heap.size + 1, 1, none⟩ = some (.slice vA s.vars.length vC) := (blk_cell HO.out 1).trans rfl
  have c2 : w4.cell? ⟨w.heap.size + 1, 2, none⟩ = some (.slice sA s.stack.length sC) := (blk_cell HO.out 2).trans rfl
  have c3 : w4.cell? ⟨w.heap.size + 1, 3, none⟩ = some (.slice pA s.pts.length pC) := (blk_cell HO.out 3).trans rfl
  have c4 : w4.cell? ⟨w.heap.size + 1, 4, none⟩ = some (.slice nA s.notes.length nC) := (blk_cell HO.out 4).trans rfl
  have c5 : w4.cell? ⟨w.heap.size + 1, 5, none⟩ = some (.int .i64 s.fin) := (blk_cell HO.out 5).trans rfl
  have c6 : w4.cell? ⟨w.heap.size + 1, 6, none⟩ = some (.int .i64 s.steps) := (blk_cell HO.out 6).trans rfl
  have c7 : w4.cell? ⟨w.heap.size + 1, 7, none⟩ = some (.int .i64 s.br) := (blk_cell HO.out 7).trans rfl
  have c8 : w4.cell? ⟨w.heap.size + 1, 8, none⟩ = some (.bool false) := (blk_cell HO.out 8).trans rfl
  have c9 : w4.cell? ⟨w.heap.size + 1, 9, none⟩ = some (.int .i64 0) := (blk_cell HO.out 9).trans rfl
  have y0 : w4.cell? ⟨w.heap.size + 1 + 1, 0, none⟩ = some (.int .i64 0) := (blk_cell HZ.out 0).trans rfl
  have y1 : w4.cell? ⟨w.heap.size + 1 + 1, 1, none⟩ = some (.slice none 0 0) := (blk_cell HZ.out 1).trans rfl
  have y2 : w4.cell? ⟨w.heap.size + 1 + 1, 2, none⟩ = some (.slice none 0 0) := (blk_cell HZ.out 2).trans rfl
  have y3 : w4.cell? ⟨w.heap.size + 1 + 1, 3, none⟩ = some (.slice none 0 0) := (blk_cell HZ.out 3).trans rfl
  have y4 : w4.cell? ⟨w.heap.size + 1 + 1, 4, none⟩ = some (.slice none 0 0) := (blk_cell HZ.out 4).trans rfl
  have y5 : w4.cell? ⟨w.heap.size + 1 + 1, 5, none⟩ = some (.int .i64 0) := (blk_cell HZ.out 5).trans rfl
  have y6 : w4.cell? ⟨w.heap.size + 1 + 1, 6, none⟩ = some (.int .i64 0) := (blk_cell HZ.out 6).trans rfl
  have y7 : w4.cell? ⟨w.heap.size + 1 + 1, 7, none⟩ = some (.int .i64 0) := (blk_cell HZ.out 7).trans rfl
  have y8 : w4.cell? ⟨w.heap.size + 1 + 1, 8, none⟩ = some (.bool false) := (blk_cell HZ.out 8).trans rfl
  have y9 : w4.cell? ⟨w.heap.size + 1 + 1, 9, none⟩ = some (.int .i64 0) := (blk_cell HZ.out 9).trans rfl
  have k0 : w4.cell? ⟨w.heap.size, 0, none⟩ = some (.slice (some ad) ins.length cC) := (blk_cell HCD.out 0).trans rfl
  have k1 : w4.cell? ⟨w.heap.size, 1, none⟩ = some (.int .i64 V) := (blk_cell HCD.out 1).trans rfl
  have k2 : w4.cell? ⟨w.heap.size, 2, none⟩ = some (.int .i64 P) := (blk_cell HCD.out 2).trans rfl
  have i0 : w4.cell? ⟨gi, 0, none⟩ = some (.int .i64 op) := (blk_cell HI.out 0).trans rfl
  have i1 : w4.cell? ⟨gi, 1, none⟩ = some (.int .i64 a) := (blk_cell HI.out 1).trans rfl
  have i2 : w4.cell? ⟨gi, 2, none⟩ = some (.int .i64 b) := (blk_cell HI.out 2).trans rfl
  have fo := blk_frozen HO.out
  have fz := blk_frozen HZ.out
  go_wp2_with fail
  exact err_end { s with pc := n } vA sA pA nA vC sC pC nC HV.out HS.out HP.out HN.out HZ.out HB.out 21 (by decide) _ rfl
set_option maxRecDepth 100000 in
set_option maxHeartbeats 4000000 in
theorem rstep_bad_few0 {w : World} (cA : Option Addr) (cC : Nat) (ins : List S42) (V P : Int) (s : St) (vA sA pA nA : Option Addr) (vC sC pC nC : Nat) (gA : Option Addr) (gC : Nat) (gl : List Int) (hr0 : Kd.C k42 w cA ins.length ins) (hv : RD w (.slice vA s.vars.length vC) s.vars) (hs : RD w (.slice sA s.stack.length sC) s.stack) (hp : RD w (.slice pA s.pts.length pC) s.pts) (hn : RD w (.slice nA s.notes.length nC) s.notes) (h3 : s.steps < 3000) (n : Nat) (hnL : n < ins.length) (op a b : Int) (hop : (insF ins n) = (op, a, b)) (np : Nat) (hpops : ∀ w, Calls Tryd.prog 23 #[.int .i64 op] w fun e w' => e = .returned (.int .i64 (np : Nat)) ∧ w = w') (hk : op ≠ 2 ∧ op ≠ 3 ∧ op ≠ 12 ∧ op ≠ 17) (hst : s.stack.length < np) :
    Calls Tryd.prog 19 #[.agg #[.slice cA ins.length cC, .int .i64 V, .int .i64 P], .agg (stC (n : Nat) (.slice vA s.vars.length vC) (.slice sA s.stack.length sC) (.slice pA s.pts.length pC) (.slice nA s.notes.length nC) s.fin s.steps s.br false 0), .slice gA gl.length gC] w (RLeft w (.error 21)) := by
  have hd : decide (3000 ≤ s.steps) = false := decide_eq_false (by omega)
  have hd1 : decide ((n : Int) < 0) = false := decide_eq_false (by omega)
  have hd2 : decide (ins.length ≤ n) = false := decide_eq_false (by omega)
  have hn0 : decide ((np : Int) < 0) = false := decide_eq_false (by omega)
  have e2 : (op == 2) = false := by simp; omega
  have e3 : (op == 3) = false := by simp; omega
  have e12 : (op == 12) = false := by simp; omega
  have e17 : (op == 17) = false := by simp; omega
  have hn1 : decide (s.stack.length < np) = true := decide_eq_true hst
  have HPO := Lib.hid hpops
  clear hk hst hpops
  have HV := Lib.hid hv
  have HS := Lib.hid hs
  have HP := Lib.hid hp
  have HN := Lib.hid hn
  have HR0 := Lib.hid hr0
  have HPRE := Lib.hid (pre_world w (.cells #[.slice cA ins.length cC, .int .i64 V, .int .i64 P] 24) (.cells #[.int .i64 (n : Nat), .slice vA s.vars.length vC, .slice sA s.stack.length sC, .slice pA s.pts.length pC, .slice nA s.notes.length nC, .int .i64 s.fin, .int .i64 s.steps, .int .i64 s.br, .bool false, .int .i64 0] 55) (.cells #[.int .i64 0, .slice none 0 0, .slice none 0 0, .slice none 0 0, .slice none 0 0, .int .i64 0, .int .i64 0, .int .i64 0, .bool false, .int .i64 0] 55))
  clear hv hs hp hn hr0
  go_enter Tryd.func19, Tryd.ntmps19
  go_upto_region 1 with fail
  obtain ⟨ho, hz, hc, hs3, hB⟩ := HPRE.out
  generalize hw3 : ((w.alloc (.cells #[.slice cA ins.length cC, .int .i64 V, .int .i64 P] 24)).alloc (.cells #[.int .i64 (n : Nat), .slice vA s.vars.length vC, .slice sA s.stack.length sC, .slice pA s.pts.length pC, .slice nA s.notes.length nC, .int .i64 s.fin, .int .i64 s.steps, .int .i64 s.br, .bool false, .int .i64 0] 55)).alloc (.cells #[.int .i64 0, .slice none 0 0, .slice none 0 0, .slice none 0 0, .slice none 0 0, .int .i64 0, .int .i64 0, .int .i64 0, .bool false, .int .i64 0] 55) = w3 at ho hz hc hs3 hB ⊢
  clear hw3 HPRE
  have c0 : w3.cell? ⟨w.heap.size + 1, 0, none⟩ = some (.int .i64 (n : Nat)) := (blk_cell ho 0).trans rfl
  have c1 : w3.cell? ⟨w.heap.size + 1, 1, none⟩ = some (.slice vA s.vars.length vC) := (blk_cell ho 1).trans rfl
  have c2 : w3.cell? ⟨w.heap.size + 1, 2, none⟩ = some (.slice sA s.stack.length sC) := (blk_cell ho 2).trans rfl
  have c3 : w3.cell? ⟨w.heap.size + 1, 3, none⟩ = some (.slice pA s.pts.length pC) := (blk_cell ho 3).trans rfl
  have c4 : w3.cell? ⟨w.heap.size + 1, 4, none⟩ = some (.slice nA s.notes.length nC) := (blk_cell ho 4).trans rfl
  have c5 : w3.cell? ⟨w.heap.size + 1, 5, none⟩ = some (.int .i64 s.fin) := (blk_cell ho 5).trans rfl
  have c6 : w3.cell? ⟨w.heap.size + 1, 6, none⟩ = some (.int .i64 s.steps) := (blk_cell ho 6).trans rfl
  have c7 : w3.cell? ⟨w.heap.size + 1, 7, none⟩ = some (.int .i64 s.br) := (blk_cell ho 7).trans rfl
  have c8 : w3.cell? ⟨w.heap.size + 1, 8, none⟩ = some (.bool false) := (blk_cell ho 8).trans rfl
  have c9 : w3.cell? ⟨w.heap.size + 1, 9, none⟩ = some (.int .i64 0) := (blk_cell ho 9).trans rfl
  have y0 : w3.cell? ⟨w.heap.size + 1 + 1, 0, none⟩ = some (.int .i64 0) := (blk_cell hz 0).trans rfl
  have y1 : w3.cell? ⟨w.heap.size + 1 + 1, 1, none⟩ = some (.slice none 0 0) := (blk_cell hz 1).trans rfl
  have y2 : w3.cell? ⟨w.heap.size + 1 + 1, 2, none⟩ = some (.slice none 0 0) := (blk_cell hz 2).trans rfl
  have y3 : w3.cell? ⟨w.heap.size + 1 + 1, 3, none⟩ = some (.slice none 0 0) := (blk_cell hz 3).trans rfl
  have y4 : w3.cell? ⟨w.heap.size + 1 + 1, 4, none⟩ = some (.slice none 0 0) := (blk_cell hz 4).trans rfl
  have y5 : w3.cell? ⟨w.heap.size + 1 + 1, 5, none⟩ = some (.int .i64 0) := (blk_cell hz 5).trans rfl
  have y6 : w3.cell? ⟨w.heap.size + 1 + 1, 6, none⟩ = some (.int .i64 0) := (blk_cell hz 6).trans rfl
  have y7 : w3.cell? ⟨w.heap.size + 1 + 1, 7, none⟩ = some (.int .i64 0) := (blk_cell hz 7).trans rfl
  have y8 : w3.cell? ⟨w.heap.size + 1 + 1, 8, none⟩ = some (.bool false) := (blk_cell hz 8).trans rfl
  have y9 : w3.cell? ⟨w.heap.size + 1 + 1, 9, none⟩ = some (.int .i64 0) := (blk_cell hz 9).trans rfl
  have k0 : w3.cell? ⟨w.heap.size, 0, none⟩ = some (.slice cA ins.length cC) := (blk_cell hc 0).trans rfl
  have k1 : w3.cell? ⟨w.heap.size, 1, none⟩ = some (.int .i64 V) := (blk_cell hc 1).trans rfl
  have k2 : w3.cell? ⟨w.heap.size, 2, none⟩ = some (.int .i64 P) := (blk_cell hc 2).trans rfl
  have fo := blk_frozen ho
  have fz := blk_frozen hz
  have HO := Lib.hid ho
  have HZ := Lib.hid hz
  have HCD := Lib.hid hc
  have HB := Lib.hid hB
  clear ho hz hc hB hs3
  obtain ⟨ad, hcA, hi0, hi1, hi2⟩ := at_T42 (Kd.C_below HR0.out HB.out) (n : Int) (by omega) (by omega)
  rw [Int.toNat_natCast] at hi0 hi1 hi2
  subst hcA
  have ei0 : w3.cell? (ad.add (n * 3)) = some (.int .i64 op) := hi0.trans (by rw [show (rd_T42 ins n).f0 = op from congrArg (·.1) hop])
  have ei1 : w3.cell? ⟨(ad.add (n * 3)).block, (ad.add (n * 3)).off + 1, none⟩ = some (.int .i64 a) := hi1.trans (by rw [show (rd_T42 ins n).f1 = a from congrArg (·.2.1) hop])
  have ei2 : w3.cell? ⟨(ad.add (n * 3)).block, (ad.add (n * 3)).off + 2, none⟩ = some (.int .i64 b) := hi2.trans (by rw [show (rd_T42 ins n).f2 = b from congrArg (·.2.2) hop])
  clear hi0 hi1 hi2 hop
  go_wp2_with fail
  refine (HPO.out _).mono ?_
  rintro e w' ⟨rfl, rfl⟩
  have HO4 := Lib.hid ((Below.heap_alloc w3 (.cells #[.int .i64 op, .int .i64 a, .int .i64 b] 42) _ (blk_lt HO.out)).trans HO.out)
  have HZ4 := Lib.hid ((Below.heap_alloc w3 (.cells #[.int .i64 op, .int .i64 a, .int .i64 b] 42) _ (blk_lt HZ.out)).trans HZ.out)
  have HC4 := Lib.hid ((Below.heap_alloc w3 (.cells #[.int .i64 op, .int .i64 a, .int .i64 b] 42) _ (blk_lt HCD.out)).trans HCD.out)
  have HI := Lib.hid (heap_alloc_new w3 (.cells #[.int .i64 op, .int .i64 a, .int .i64 b] 42))
  have HB4 := Lib.hid (HB.out.alloc HB.out.size (.cells #[.int .i64 op, .int .i64 a, .int .i64 b] 42))
  have hgo : w3.heap.size ≠ w.heap.size + 1 := fun e => absurd (blk_lt HO.out) (by omega)
  have hgz : w3.heap.size ≠ w.heap.size + 1 + 1 := fun e => absurd (blk_lt HZ.out) (by omega)
  have hgl : w.heap.size ≤ w3.heap.size := HB.out.size
  clear c0 y0 c1 y1 c2 y2 c3 y3 c4 y4 c5 y5 c6 y6 c7 y7 c8 y8 c9 y9 k0 k1 k2 fo fz ei0 ei1 ei2 HO HZ HCD HB
  have HO := HO4
  have HZ := HZ4
  have HCD := HC4
  have HB := HB4
  clear HO4 HZ4 HC4 HB4
  generalize w3.heap.size = gi at HI hgo hgz hgl ⊢
  generalize w3.alloc (.cells #[.int .i64 op, .int .i64 a, .int .i64 b] 42) = w4 at HO HZ HCD HB HI ⊢
  have c0 : w4.cell? ⟨w.heap.size + 1, 0, none⟩ = some (.int .i64 (n : Nat)) := (blk_cell HO.out 0).trans rfl
  have c1 : w4.cell? ⟨w.heap.size + 1, 1, none⟩ = some (.slice vA s.vars.length vC) := (blk_cell HO.out 1).trans rfl
  have c2 : w4.cell? ⟨w.heap.size + 1, 2, none⟩ = some (.slice sA s.stack.length sC) := (blk_cell HO.out 2).trans rfl
  have c3 : w4.cell? ⟨w.heap.size + 1, 3, none⟩ = some (.slice pA s.pts.length pC) := (blk_cell HO.out 3).trans rfl
  have c4 : w4.cell? ⟨w.heap.size + 1, 4, none⟩ = some (.slice nA s.notes.length nC) := (blk_cell HO.out 4).trans rfl
  have c5 : w4.cell? ⟨w.heap.size + 1, 5, none⟩ = some (.int .i64 s.fin) := (blk_cell HO.out 5).trans rfl
  have c6 : w4.cell? ⟨w.heap.size + 1, 6, none⟩ = some (.int .i64 s.steps) := (blk_cell HO.out 6).trans rfl
  have c7 : w4.cell? ⟨w.heap.size + 1, 7, none⟩ = some (.int .i64 s.br) := (blk_cell HO.out 7).trans rfl
  have c8 : w4.cell? ⟨w.heap.size + 1, 8, none⟩ = some (.bool false) := (blk_cell HO.out 8).trans rfl
  have c9 : w4.cell? ⟨w.heap.size + 1, 9, none⟩ = some (.int .i64 0) := (blk_cell HO.out 9).trans rfl
  have y0 : w4.cell? ⟨w.heap.size + 1 + 1, 0, none⟩ = some (.int .i64 0) := (blk_cell HZ.out 0).trans rfl
  have y1 : w4.cell? ⟨w.heap.size + 1 + 1, 1, none⟩ = some (.slice none 0 0) := (blk_cell HZ.out 1).trans rfl
  have y2 : w4.cell? ⟨w.heap.size + 1 + 1, 2, none⟩ = some (.slice none 0 0) := (blk_cell HZ.out 2).trans rfl
  have y3 : w4.cell? ⟨w.heap.size + 1 + 1, 3, none⟩ = some (.slice none 0 0) := (blk_cell HZ.out 3).trans rfl
  have y4 : w4.cell? ⟨w.heap.size + 1 + 1, 4, none⟩ = some (.slice none 0 0) := (blk_cell HZ.out 4).trans rfl
  have y5 : w4.cell? ⟨w.heap.size + 1 + 1, 5, none⟩ = some (.int .i64 0) := (blk_cell HZ.out 5).trans rfl
  have y6 : w4.cell? ⟨w.heap.size + 1 + 1, 6, none⟩ = some (.int .i64 0) := (blk_cell HZ.out 6).trans rfl
  have y7 : w4.cell? ⟨w.heap.size + 1 + 1, 7, none⟩ = some (.int .i64 0) := (blk_cell HZ.out 7).trans rfl
  have y8 : w4.cell? ⟨w.heap.size + 1 + 1, 8, none⟩ = some (.bool false) := (blk_cell HZ.out 8).trans rfl
  have y9 : w4.cell? ⟨w.heap.size + 1 + 1, 9, none⟩ = some (.int .i64 0) := (blk_cell HZ.out 9).trans rfl
  have k0 : w4.cell? ⟨w.heap.size, 0, none⟩ = some (.slice (some ad) ins.length cC) := (blk_cell HCD.out 0).trans rfl
  have k1 : w4.cell? ⟨w.heap.size, 1, none⟩ = some (.int .i64 V) := (blk_cell HCD.out 1).trans rfl
  have k2 : w4.cell? ⟨w.heap.size, 2, none⟩ = some (.int .i64 P) := (blk_cell HCD.out 2).trans rfl
  have i0 : w4.cell? ⟨gi, 0, none⟩ = some (.int .i64 op) := (blk_cell HI.out 0).trans rfl
  have i1 : w4.cell? ⟨gi, 1, none⟩ = some (.int .i64 a) := (blk_cell HI.out 1).trans rfl
  have i2 : w4.cell? ⟨gi, 2, none⟩ = some (.int .i64 b) := (blk_cell HI.out 2).trans rfl
  have fo := blk_frozen HO.out
  have fz := blk_frozen HZ.out
  go_wp2_with fail
  exact err_end { s with pc := n } vA sA pA nA vC sC pC nC HV.out HS.out HP.out HN.out HZ.out HB.out 21 (by decide) _ rfl
set_option maxRecDepth 100000 in
set_option maxHeartbeats 4000000 in
theorem rstep_bad_few3 {w : World} (cA : Option Addr) (cC : Nat) (ins : List S42) (V P : Int) (s : St) (vA sA pA nA : Option Addr) (vC sC pC nC : Nat) (gA : Option Addr) (gC : Nat) (gl : List Int) (hr0 : Kd.C k42 w cA ins.length ins) (hv : RD w (.slice vA s.vars.length vC) s.vars) (hs : RD w (.slice sA s.stack.length sC) s.stack) (hp : RD w (.slice pA s.pts.length pC) s.pts) (hn : RD w (.slice nA s.notes.length nC) s.notes) (h3 : s.steps < 3000) (n : Nat) (hnL : n < ins.length) (op a b : Int) (hop : (insF ins n) = (op, a, b)) (np : Nat) (hpops : ∀ w, Calls Tryd.prog 23 #[.int .i64 op] w fun e w' => e = .returned (.int .i64 (np : Nat)) ∧ w = w') (hk : op = 3) (hst : s.stack.length < np) :
    Calls Tryd.prog 19 #[.agg #[.slice cA ins.length cC, .int .i64 V, .int .i64 P], .agg (stC (n : Nat) (.slice vA s.vars.length vC) (.slice sA s.stack.length sC) (.slice pA s.pts.length pC) (.slice nA s.notes.length nC) s.fin s.steps s.br false 0), .slice gA gl.length gC] w (RLeft w (.error 21)) := by
  have hd : decide (3000 ≤ s.steps) = false := decide_eq_false (by omega)
  have hd1 : decide ((n : Int) < 0) = false := decide_eq_false (by omega)
  have hd2 : decide (ins.length ≤ n) = false := decide_eq_false (by omega)
  have hn0 : decide ((np : Int) < 0) = false := decide_eq_false (by omega)
  have e2 : (op == 2) = false := by simp; omega
  have e3 : (op == 3) = true := by simp; omega
  have e12 : (op == 12) = false := by simp; omega
  have e17 : (op == 17) = false := by simp; omega
  have hn1 : decide (s.stack.length < np) = true := decide_eq_true hst
  have HPO := Lib.hid hpops
  clear hk hst hpops
  have HV := Lib.hid hv
  have HS := Lib.hid hs
  have HP := Lib.hid hp
  have HN := Lib.hid hn
  have HR0 := Lib.hid hr0
  have HPRE := Lib.hid (pre_world w (.cells #[.slice cA ins.length cC, .int .i64 V, .int .i64 P] 24) (.cells #[.int .i64 (n : Nat), .slice vA s.vars.length vC, .slice sA s.stack.length sC, .slice pA s.pts.length pC, .slice nA s.notes.length nC, .int .i64 s.fin, .int .i64 s.steps, .int .i64 s.br, .bool false, .int .i64 0] 55) (.cells #[.int .i64 0, .slice none 0 0, .slice none 0 0, .slice none 0 0, .slice none 0 0, .int .i64 0, .int .i64 0, .int .i64 0, .bool false, .int .i64 0] 55))
  clear hv hs hp hn hr0
  go_enter Tryd.func19, Tryd.ntmps19
  go_upto_region 1 with fail
  obtain ⟨ho, hz, hc, hs3, hB⟩ := HPRE.out
  generalize hw3 : ((w.alloc (.cells #[.slice cA ins.length cC, .int .i64 V, .int .i64 P] 24)).alloc (.cells #[.int .i64 (n : Nat), .slice vA s.vars.length vC, .slice sA s.stack.length sC, .slice pA s.pts.length pC, .slice nA s.notes.length nC, .int .i64 s.fin, .int .i64 s.steps, .int .i64 s.br, .bool false, .int .i64 0] 55)).alloc (.cells #[.int .i64 0, .slice none 0 0, .slice none 0 0, .slice none 0 0, .slice none 0 0, .int .i64 0, .int .i64 0, .int .i64 0, .bool false, .int .i64 0] 55) = w3 at ho hz hc hs3 hB ⊢
  clear hw3 HPRE
  have c0 : w3.cell? ⟨w.heap.size + 1, 0, none⟩ = some (.int .i64 (n : Nat)) := (blk_cell ho 0).trans rfl
  have c1 : w3.cell? ⟨w.heap.size + 1, 1, none⟩ = some (.slice vA s.vars.length vC) := (blk_cell ho 1).trans rfl
  have c2 : w3.cell? ⟨w.heap.size + 1, 2, none⟩ = some (.slice sA s.stack.length sC) := (blk_cell ho 2).trans rfl
  have c3 : w3.cell? ⟨w.heap.size + 1, 3, none⟩ = some (.slice pA s.pts.length pC) := (blk_cell ho 3).trans rfl
  have c4 : w3.cell? ⟨w.heap.size + 1, 4, none⟩ = some (.slice nA s.notes.length nC) := (blk_cell ho 4).trans rfl
  have c5 : w3.cell? ⟨w.heap.size + 1, 5, none⟩ = some (.int .i64 s.fin) := (blk_cell ho 5).trans rfl
  have c6 : w3.cell? ⟨w.heap.size + 1, 6, none⟩ = some (.int .i64 s.steps) := (blk_cell ho 6).trans rfl
  have c7 : w3.cell? ⟨w.heap.size + 1, 7, none⟩ = some (.int .i64 s.br) := (blk_cell ho 7).trans rfl
  have c8 : w3.cell? ⟨w.heap.size + 1, 8, none⟩ = some (.bool false) := (blk_cell ho 8).trans rfl
  have c9 : w3.cell? ⟨w.heap.size + 1, 9, none⟩ = some (.int .i64 0) := (blk_cell ho 9).trans rfl
  have y0 : w3.cell? ⟨w.heap.size + 1 + 1, 0, none⟩ = some (.int .i64 0) := (blk_cell hz 0).trans rfl
  have y1 : w3.cell? ⟨w.heap.size + 1 + 1, 1, none⟩ = some (.slice none 0 0) := (blk_cell hz 1).trans rfl
  have y2 : w3.cell? ⟨w.heap.size + 1 + 1, 2, none⟩ = some (.slice none 0 0) := (blk_cell hz 2).trans rfl
  have y3 : w3.cell? ⟨w.heap.size + 1 + 1, 3, none⟩ = some (.slice none 0 0) := (blk_cell hz 3).trans rfl
  have y4 : w3.cell? ⟨w.heap.size + 1 + 1, 4, none⟩ = some (.slice none 0 0) := (blk_cell hz 4).trans rfl
  have y5 : w3.cell? ⟨w.heap.size + 1 + 1, 5, none⟩ = some (.int .i64 0) := (blk_cell hz 5).trans rfl
  have y6 : w3.cell? ⟨w.heap.size + 1 + 1, 6, none⟩ = some (.int .i64 0) := (blk_cell hz 6).trans rfl
  have y7 : w3.cell? ⟨w.heap.size + 1 + 1, 7, none⟩ = some (.int .i64 0) := (blk_cell hz 7).trans rfl
  have y8 : w3.cell? ⟨w.heap.size + 1 + 1, 8, none⟩ = some (.bool false) := (blk_cell hz 8).trans rfl
  have y9 : w3.cell? ⟨w.heap.size + 1 + 1, 9, none⟩ = some (.int .i64 0) := (blk_cell hz 9).trans rfl
  have k0 : w3.cell? ⟨w.heap.size, 0, none⟩ = some (.slice cA ins.length cC) := (blk_cell hc 0).trans rfl
  have k1 : w3.cell? ⟨w.heap.size, 1, none⟩ = some (.int .i64 V) := (blk_cell hc 1).trans rfl
  have k2 : w3.cell? ⟨w.heap.size, 2, none⟩ = some (.int .i64 P) := (blk_cell hc 2).trans rfl
  have fo := blk_frozen ho
  have fz := blk_frozen hz
  have HO := Lib.hid ho
  have HZ := Lib.hid hz
  have HCD := Lib.hid hc
  have HB := Lib.hid hB
  clear ho hz hc hB hs3
  obtain ⟨ad, hcA, hi0, hi1, hi2⟩ := at_T42 (Kd.C_below HR0.out HB.out) (n : Int) (by omega) (by omega)
  rw [Int.toNat_natCast] at hi0 hi1 hi2
  subst hcA
  have ei0 : w3.cell? (ad.add (n * 3)) = some (.int .i64 op) := hi0.trans (by rw [show (rd_T42 ins n).f0 = op from congrArg (·.1) hop])
  have ei1 : w3.cell? ⟨(ad.add (n * 3)).block, (ad.add (n * 3)).off + 1, none⟩ = some (.int .i64 a) := hi1.trans (by rw [show (rd_T42 ins n).f1 = a from congrArg (·.2.1) hop])
  have ei2 : w3.cell? ⟨(ad.add (n * 3)).block, (ad.add (n * 3)).off + 2, none⟩ = some (.int .i64 b) := hi2.trans (by rw [show (rd_T42 ins n).f2 = b from congrArg (·.2.2) hop])
  clear hi0 hi1 hi2 hop
  go_wp2_with fail
  refine (HPO.out _).mono ?_
  rintro e w' ⟨rfl, rfl⟩
  have HO4 := Lib.hid ((Below.heap_alloc w3 (.cells #[.int .i64 op, .int .i64 a, .int .i64 b] 42) _ (blk_lt HO.out)).trans HO.out)
  have HZ4 := Lib.hid ((Below.heap_alloc w3 (.cells #[.int .i64 op, .int .i64 a, .int .i64 b] 42) _ (blk_lt HZ.out)).trans HZ.out)
  have HC4 := Lib.hid ((Below.heap_alloc w3 (.cells #[.int .i64 op, .int .i64 a, .int .i64 b] 42) _ (blk_lt HCD.out)).trans HCD.out)
  have HI := Lib.hid (heap_alloc_new w3 (.cells #[.int .i64 op, .int .i64 a, .int .i64 b] 42))
  have HB4 := Lib.hid (HB.out.alloc HB.out.size (.cells #[.int .i64 op, .int .i64 a, .int .i64 b] 42))
  have hgo : w3.heap.size ≠ w.heap.size + 1 := fun e => absurd (blk_lt HO.out) (by omega)
  have hgz : w3.heap.size ≠ w.heap.size + 1 + 1 := fun e => absurd (blk_lt HZ.out) (by omega)
  have hgl : w.heap.size ≤ w3.heap.size := HB.out.size
  clear c0 y0 c1 y1 c2 y2 c3 y3 c4 y4 c5 y5 c6 y6 c7 y7 c8 y8 c9 y9 k0 k1 k2 fo fz ei0 ei1 ei2 HO HZ HCD HB
  have HO := HO4
  have HZ := HZ4
  have HCD := HC4
  have HB := HB4
  clear HO4 HZ4 HC4 HB4
  generalize w3.heap.size = gi at HI hgo hgz hgl ⊢
  generalize w3.alloc (.cells #[.int .i64 op, .int .i64 a, .int .i64 b] 42) = w4 at HO HZ HCD HB HI ⊢
  have c0 : w4.cell? ⟨w.heap.size + 1, 0, none⟩ = some (.int .i64 (n : Nat)) := (blk_cell HO.out 0).trans rfl
  have c1 : w4.cell? ⟨w.heap.size + 1, 1, none⟩ = some (.slice vA s.vars.length vC) := (blk_cell HO.out 1).trans rfl
  have c2 : w4.cell? ⟨w.heap.size + 1, 2, none⟩ = some (.slice sA s.stack.length sC) := (blk_cell HO.out 2).trans rfl
  have c3 : w4.cell? ⟨w.heap.size + 1, 3, none⟩ = some (.slice pA s.pts.length pC) := (blk_cell HO.out 3).trans rfl
  have c4 : w4.cell? ⟨w.heap.size + 1, 4, none⟩ = some (.slice nA s.notes.length nC) := (blk_cell HO.out 4).trans rfl
  have c5 : w4.cell? ⟨w.heap.size + 1, 5, none⟩ = some (.int .i64 s.fin) := (blk_cell HO.out 5).trans rfl
  have c6 : w4.cell? ⟨w.heap.size + 1, 6, none⟩ = some (.int .i64 s.steps) := (blk_cell HO.out 6).trans rfl
  have c7 : w4.cell? ⟨w.heap.size + 1, 7, none⟩ = some (.int .i64 s.br) := (blk_cell HO.out 7).trans rfl
  have c8 : w4.cell? ⟨w.heap.size + 1, 8, none⟩ = some (.bool false) := (blk_cell HO.out 8).trans rfl
  have c9 : w4.cell? ⟨w.heap.size + 1, 9, none⟩ = some (.int .i64 0) := (blk_cell HO.out 9).trans rfl
  have y0 : w4.cell? ⟨w.heap.size + 1 + 1, 0, none⟩ = some (.int .i64 0) := (blk_cell HZ.out 0).trans rfl
  have y1 : w4.cell? ⟨w.heap.size + 1 + 1, 1, none⟩ = some (.slice none 0 0) := (blk_cell HZ.out 1).trans rfl
  have y2 : w4.cell? ⟨w.heap.size + 1 + 1, 2, none⟩ = some (.slice none 0 0) := (blk_cell HZ.out 2).trans rfl
  have y3 : w4.cell? ⟨w.heap.size + 1 + 1, 3, none⟩ = some (.slice none 0 0) := (blk_cell HZ.out 3).trans rfl
  have y4 : w4.cell? ⟨w.heap.size + 1 + 1, 4, none⟩ = some (.slice none 0 0) := (blk_cell HZ.out 4).trans rfl
  have y5 : w4.cell? ⟨w.heap.size + 1 + 1, 5, none⟩ = some (.int .i64 0) := (blk_cell HZ.out 5).trans rfl
  have y6 : w4.cell? ⟨w.heap.size + 1 + 1, 6, none⟩ = some (.int .i64 0) := (blk_cell HZ.out 6).trans rfl
  have y7 : w4.cell? ⟨w.heap.size + 1 + 1, 7, none⟩ = some (.int .i64 0) := (blk_cell HZ.out 7).trans rfl
  have y8 : w4.cell? ⟨w.heap.size + 1 + 1, 8, none⟩ = some (.bool false) := (blk_cell HZ.out 8).trans rfl
  have y9 : w4.cell? ⟨w.heap.size + 1 + 1, 9, none⟩ = some (.int .i64 0) := (blk_cell HZ.out 9).trans rfl
  have k0 : w4.cell? ⟨w.heap.size, 0, none⟩ = some (.slice (some ad) ins.length cC) := (blk_cell HCD.out 0).trans rfl
  have k1 : w4.cell? ⟨w.heap.size, 1, none⟩ = some (.int .i64 V) := (blk_cell HCD.out 1).trans rfl
  have k2 : w4.cell? ⟨w.heap.size, 2, none⟩ = some (.int .i64 P) := (blk_cell HCD.out 2).trans rfl
  have i0 : w4.cell? ⟨gi, 0, none⟩ = some (.int .i64 op) := (blk_cell HI.out 0).trans rfl
  have i1 : w4.cell? ⟨gi, 1, none⟩ = some (.int .i64 a) := (blk_cell HI.out 1).trans rfl
  have i2 : w4.cell? ⟨gi, 2, none⟩ = some (.int .i64 b) := (blk_cell HI.out 2).trans rfl
  have fo := blk_frozen HO.out
  have fz := blk_frozen HZ.out
  go_wp2_with fail
  exact err_end { s with pc := n } vA sA pA nA vC sC pC nC HV.out HS.out HP.out HN.out HZ.out HB.out 21 (by decide) _ rfl
set_option maxRecDepth 100000 in
set_option maxHeartbeats 4000000 in
theorem rstep_bad_few12 {w : World} (cA : Option Addr) (cC : Nat) (ins : List S42) (V P : Int) (s : St) (vA sA pA nA : Option Addr) (vC sC pC nC : Nat) (gA : Option Addr) (gC : Nat) (gl : List Int) (hr0 : Kd.C k42 w cA ins.length ins) (hv : RD w (.slice vA s.vars.length vC) s.vars) (hs : RD w (.slice sA s.stack.length sC) s.stack) (hp : RD w (.slice pA s.pts.length pC) s.pts) (hn : RD w (.slice nA s.notes.length nC) s.notes) (h3 : s.steps < 3000) (n : Nat) (hnL : n < ins.length) (op a b : Int) (hop : (insF ins n) = (op, a, b)) (np : Nat) (hpops : ∀ w, Calls Tryd.prog 23 #[.int .i64 op] w fun e w' => e = .returned (.int .i64 (np : Nat)) ∧ w = w') (hk : op = 12) (hst : s.stack.length < np) :
    Calls Tryd.prog 19 #[.agg #[.slice cA ins.length cC, .int .i64 V, .int .i64 P], .agg (stC (n : Nat) (.slice vA s.vars.length vC) (.slice sA s.stack.length sC) (.slice pA s.pts.length pC) (.slice nA s.notes.length nC) s.fin s.steps s.br false 0), .slice gA gl.length gC] w (RLeft w (.error 21)) := by
  have hd : decide (3000 ≤ s.steps) = false := decide_eq_false (by omega)
  have hd1 : decide ((n : Int) < 0) = false := decide_eq_false (by omega)
  have hd2 : decide (ins.length ≤ n) = false := decide_eq_false (by omega)
  have hn0 : decide ((np : Int) < 0) = false := decide_eq_false (by omega)
  have e2 : (op == 2) = false := by simp; omega
  have e3 : (op == 3) = false := by simp; omega
  have e12 : (op == 12) = true := by simp; omega
  have e17 : (op == 17) = false := by simp; omega
  have hn1 : decide (s.stack.length < np) = true := decide_eq_true hst
  have HPO := Lib.hid hpops
  clear hk hst hpops
  have HV := Lib.hid hv
  have HS := Lib.hid hs
  have HP := Lib.hid hp
  have HN := Lib.hid hn
  have HR0 := Lib.hid hr0
  have HPRE := Lib.hid (pre_world w (.cells #[.slice cA ins.length cC, .int .i64 V, .int .i64 P] 24) (.cells #[.int .i64 (n : Nat), .slice vA s.vars.length vC, .slice sA s.stack.length sC, .slice pA s.pts.length pC, .slice nA s.notes.length nC, .int .i64 s.fin, .int .i64 s.steps, .int .i64 s.br, .bool false, .int .i64 0] 55) (.cells #[.int .i64 0, .slice none 0 0, .slice none 0 0, .slice none 0 0, .slice none 0 0, .int .i64 0, .int .i64 0, .int .i64 0, .bool false, .int .i64 0] 55))
  clear hv hs hp hn hr0
  go_enter Tryd.func19, Tryd.ntmps19
  go_upto_region 1 with fail
  obtain ⟨ho, hz, hc, hs3, hB⟩ := HPRE.out
  generalize hw3 : ((w.alloc (.cells #[.slice cA ins.length cC, .int .i64 V, .int .i64 P] 24)).alloc (.cells #[.int .i64 (n : Nat), .slice vA s.vars.length vC, .slice sA s.stack.length sC, .slice pA s.pts.length pC, .slice nA s.notes.length nC, .int .i64 s.fin, .int .i64 s.steps, .int .i64 s.br, .bool false, .int .i64 0] 55)).alloc (.cells #[.int .i64 0, .slice none 0 0, .slice none 0 0, .slice none 0 0, .slice none 0 0, .int .i64 0, .int .i64 0, .int .i64 0, .bool false, .int .i64 0] 55) = w3 at ho hz hc hs3 hB ⊢
  clear hw3 HPRE
  have c0 : w3.cell? ⟨w.heap.size + 1, 0, none⟩ = some (.int .i64 (n : Nat)) := (blk_cell ho 0).trans rfl
  have c1 : w3.cell? ⟨w.heap.size + 1, 1, none⟩ = some (.slice vA s.vars.length vC) := (blk_cell ho 1).trans rfl
  have c2 : w3.cell? ⟨w.heap.size + 1, 2, none⟩ = some (.slice sA s.stack.length sC) := (blk_cell ho 2).trans rfl
  have c3 : w3.cell? ⟨w.heap.size + 1, 3, none⟩ = some (.slice pA s.pts.length pC) := (blk_cell ho 3).trans rfl
  have c4 : w3.cell? ⟨w.heap.size + 1, 4, none⟩ = some (.slice nA s.notes.length nC) := (blk_cell ho 4).trans rfl
  have c5 : w3.cell? ⟨w.heap.size + 1, 5, none⟩ = some (.int .i64 s.fin) := (blk_cell ho 5).trans rfl
  have c6 : w3.cell? ⟨w.heap.size + 1, 6, none⟩ = some (.int .i64 s.steps) := (blk_cell ho 6).trans rfl
  have c7 : w3.cell? ⟨w.heap.size + 1, 7, none⟩ = some (.int .i64 s.br) := (blk_cell ho 7).trans rfl
  have c8 : w3.cell? ⟨w.heap.size + 1, 8, none⟩ = some (.bool false) := (blk_cell ho 8).trans rfl
  have c9 : w3.cell? ⟨w.heap.size + 1, 9, none⟩ = some (.int .i64 0) := (blk_cell ho 9).trans rfl
  have y0 : w3.cell? ⟨w.heap.size + 1 + 1, 0, none⟩ = some (.int .i64 0) := (blk_cell hz 0).trans rfl
  have y1 : w3.cell? ⟨w.heap.size + 1 + 1, 1, none⟩ = some (.slice none 0 0) := (blk_cell hz 1).trans rfl
  have y2 : w3.cell? ⟨w.heap.size + 1 + 1, 2, none⟩ = some (.slice none 0 0) := (blk_cell hz 2).trans rfl
  have y3 : w3.cell? ⟨w.heap.size + 1 + 1, 3, none⟩ = some (.slice none 0 0) := (blk_cell hz 3).trans rfl
  have y4 : w3.cell? ⟨w.heap.size + 1 + 1, 4, none⟩ = some (.slice none 0 0) := (blk_cell hz 4).trans rfl
  have y5 : w3.cell? ⟨w.heap.size + 1 + 1, 5, none⟩ = some (.int .i64 0) := (blk_cell hz 5).trans rfl
  have y6 : w3.cell? ⟨w.heap.size + 1 + 1, 6, none⟩ = some (.int .i64 0) := (blk_cell hz 6).trans rfl
  have y7 : w3.cell? ⟨w.heap.size + 1 + 1, 7, none⟩ = some (.int .i64 0) := (blk_cell hz 7).trans rfl
  have y8 : w3.cell? ⟨w.heap.size + 1 + 1, 8, none⟩ = some (.bool false) := (blk_cell hz 8).trans rfl
  have y9 : w3.cell? ⟨w.heap.size + 1 + 1, 9, none⟩ = some (.int .i64 0) := (blk_cell hz 9).trans rfl
  have k0 : w3.cell? ⟨w.heap.size, 0, none⟩ = some (.slice cA ins.length cC) := (blk_cell hc 0).trans rfl
  have k1 : w3.cell? ⟨w.heap.size, 1, none⟩ = some (.int .i64 V) := (blk_cell hc 1).trans rfl
  have k2 : w3.cell? ⟨w.heap.size, 2, none⟩ = some (.int .i64 P) := (blk_cell hc 2).trans rfl
  have fo := blk_frozen ho
  have fz := blk_frozen hz
  have HO := Lib.hid ho
  have HZ := Lib.hid hz
  have HCD := Lib.hid hc
  have HB := Lib.hid hB
  clear ho hz hc hB hs3
  obtain ⟨ad, hcA, hi0, hi1, hi2⟩ := at_T42 (Kd.C_below HR0.out HB.out) (n : Int) (by omega) (by omega)
  rw [Int.toNat_natCast] at hi0 hi1 hi2
  subst hcA
  have ei0 : w3.cell? (ad.add (n * 3)) = some (.int .i64 op) := hi0.trans (by rw [show (rd_T42 ins n).f0 = op from congrArg (·.1) hop])
  have ei1 : w3.cell? ⟨(ad.add (n * 3)).block, (ad.add (n * 3)).off + 1, none⟩ = some (.int .i64 a) := hi1.trans (by rw [show (rd_T42 ins n).f1 = a from congrArg (·.2.1) hop])
  have ei2 : w3.cell? ⟨(ad.add (n * 3)).block, (ad.add (n * 3)).off + 2, none⟩ = some (.int .i64 b) := hi2.trans (by rw [show (rd_T42 ins n).f2 = b from congrArg (·.2.2) hop])
  clear hi0 hi1 hi2 hop
  go_wp2_with fail
  refine (HPO.out _).mono ?_
  rintro e w' ⟨rfl, rfl⟩
  have HO4 := Lib.hid ((Below.heap_alloc w3 (.cells #[.int .i64 op, .int .i64 a, .int .i64 b] 42) _ (blk_lt HO.out)).trans HO.out)
  have HZ4 := Lib.hid ((Below.heap_alloc w3 (.cells #[.int .i64 op, .int .i64 a, .int .i64 b] 42) _ (blk_lt HZ.out)).trans HZ.out)
  have HC4 := Lib.hid ((Below.heap_alloc w3 (.cells #[.int .i64 op, .int .i64 a, .int .i64 b] 42) _ (blk_lt HCD.out)).trans HCD.out)
  have HI := Lib.hid (heap_alloc_new w3 (.cells #[.int .i64 op, .int .i64 a, .int .i64 b] 42))
  have HB4 := Lib.hid (HB.out.alloc HB.out.size (.cells #[.int .i64 op, .int .i64 a, .int .i64 b] 42))
  have hgo : w3.heap.size ≠ w.heap.size + 1 := fun e => absurd (blk_lt HO.out) (by omega)
  have hgz : w3.heap.size ≠ w.heap.size + 1 + 1 := fun e => absurd (blk_lt HZ.out) (by omega)
  have hgl : w.heap.size ≤ w3.heap.size := HB.out.size
  clear c0 y0 c1 y1 c2 y2 c3 y3 c4 y4 c5 y5 c6 y6 c7 y7 c8 y8 c9 y9 k0 k1 k2 fo fz ei0 ei1 ei2 HO HZ HCD HB
  have HO := HO4
  have HZ := HZ4
  have HCD := HC4
  have HB := HB4
  clear HO4 HZ4 HC4 HB4
  generalize w3.heap.size = gi at HI hgo hgz hgl ⊢
  generalize w3.alloc (.cells #[.int .i64 op, .int .i64 a, .int .i64 b] 42) = w4 at HO HZ HCD HB HI ⊢
  have c0 : w4.cell? ⟨w.heap.size + 1, 0, none⟩ = some (.int .i64 (n : Nat)) := (blk_cell HO.out 0).trans rfl
  have c1 : w4.cell? ⟨w.heap.size + 1, 1, none⟩ = some (.slice vA s.vars.length vC) := (blk_cell HO.out 1).trans rfl
  have c2 : w4.cell? ⟨w.heap.size + 1, 2, none⟩ = some (.slice sA s.stack.length sC) := (blk_cell HO.out 2).trans rfl
  have c3 : w4.cell? ⟨w.heap.size + 1, 3, none⟩ = some (.slice pA s.pts.length pC) := (blk_cell HO.out 3).trans rfl
  have c4 : w4.cell? ⟨w.heap.size + 1, 4, none⟩ = some (.slice nA s.notes.length nC) := (blk_cell HO.out 4).trans rfl
  have c5 : w4.cell? ⟨w.heap.size + 1, 5, none⟩ = some (.int .i64 s.fin) := (blk_cell HO.out 5).trans rfl
  have c6 : w4.cell? ⟨w.heap.size + 1, 6, none⟩ = some (.int .i64 s.steps) := (blk_cell HO.out 6).trans rfl
  have c7 : w4.cell? ⟨w.heap.size + 1, 7, none⟩ = some (.int .i64 s.br) := (blk_cell HO.out 7).trans rfl
  have c8 : w4.cell? ⟨w.heap.size + 1, 8, none⟩ = some (.bool false) := (blk_cell HO.out 8).trans rfl
  have c9 : w4.cell? ⟨w.heap.size + 1, 9, none⟩ = some (.int .i64 0) := (blk_cell HO.out 9).trans rfl
  have y0 : w4.cell? ⟨w.heap.size + 1 + 1, 0, none⟩ = some (.int .i64 0) := (blk_cell HZ.out 0).trans rfl
  have y1 : w4.cell? ⟨w.heap.size + 1 + 1, 1, none⟩ = some (.slice none 0 0) := (blk_cell HZ.out 1).trans rfl
  have y2 : w4.cell? ⟨w.heap.size + 1 + 1, 2, none⟩ = some (.slice none 0 0) := (blk_cell HZ.out 2).trans rfl
  have y3 : w4.cell? ⟨w.heap.size + 1 + 1, 3, none⟩ = some (.slice none 0 0) := (blk_cell HZ.out 3).trans rfl
  have y4 : w4.cell? ⟨w.heap.size + 1 + 1, 4, none⟩ = some (.slice none 0 0) := (blk_cell HZ.out 4).trans rfl
  have y5 : w4.cell? ⟨w.heap.size + 1 + 1, 5, none⟩ = some (.int .i64 0) := (blk_cell HZ.out 5).trans rfl
  have y6 : w4.cell? ⟨w.heap.size + 1 + 1, 6, none⟩ = some (.int .i64 0) := (blk_cell HZ.out 6).trans rfl
  have y7 : w4.cell? ⟨w.heap.size + 1 + 1, 7, none⟩ = some (.int .i64 0) := (blk_cell HZ.out 7).trans rfl
  have y8 : w4.cell? ⟨w.heap.size + 1 + 1, 8, none⟩ = some (.bool false) := (blk_cell HZ.out 8).trans rfl
  have y9 : w4.cell? ⟨w.heap.size + 1 + 1, 9, none⟩ = some (.int .i64 0) := (blk_cell HZ.out 9).trans rfl
  have k0 : w4.cell? ⟨w.heap.size, 0, none⟩ = some (.slice (some ad) ins.length cC) := (blk_cell HCD.out 0).trans rfl
  have k1 : w4.cell? ⟨w.heap.size, 1, none⟩ = some (.int .i64 V) := (blk_cell HCD.out 1).trans rfl
  have k2 : w4.cell? ⟨w.heap.size, 2, none⟩ = some (.int .i64 P) := (blk_cell HCD.out 2).trans rfl
  have i0 : w4.cell? ⟨gi, 0, none⟩ = some (.int .i64 op) := (blk_cell HI.out 0).trans rfl
  have i1 : w4.cell? ⟨gi, 1, none⟩ = some (.int .i64 a) := (blk_cell HI.out 1).trans rfl
  have i2 : w4.cell? ⟨gi, 2, none⟩ = some (.int .i64 b) := (blk_cell HI.out 2).trans rfl
  have fo := blk_frozen HO.out
  have fz := blk_frozen HZ.out
  go_wp2_with fail
  exact err_end { s with pc := n } vA sA pA nA vC sC pC nC HV.out HS.out HP.out HN.out HZ.out HB.out 21 (by decide) _ rfl
set_option maxRecDepth 100000 in
set_option maxHeartbeats 4000000 in
theorem rstep_bad_var2lo {w : World} (cA : Option Addr) (cC : Nat) (ins : List S42) (V P : Int) (s : St) (vA sA pA nA : Option Addr) (vC sC pC nC : Nat) (gA : Option Addr) (gC : Nat) (gl : List Int) (hr0 : Kd.C k42 w cA ins.length ins) (hv : RD w (.slice vA s.vars.length vC) s.vars) (hs : RD w (.slice sA s.stack.length sC) s.stack) (hp : RD w (.slice pA s.pts.length pC) s.pts) (hn : RD w (.slice nA s.notes.length nC) s.notes) (h3 : s.steps < 3000) (n : Nat) (hnL : n < ins.length) (op a b : Int) (hop : (insF ins n) = (op, a, b)) (np : Nat) (hpops : ∀ w, Calls Tryd.prog 23 #[.int .i64 op] w fun e w' => e = .returned (.int .i64 (np : Nat)) ∧ w = w') (hk : op = 2) (hst : np ≤ s.stack.length) (ha : a < 0) :
    Calls Tryd.prog 19 #[.agg #[.slice cA ins.length cC, .int .i64 V, .int .i64 P], .agg (stC (n : Nat) (.slice vA s.vars.length vC) (.slice sA s.stack.length sC) (.slice pA s.pts.length pC) (.slice nA s.notes.length nC) s.fin s.steps s.br false 0), .slice gA gl.length gC] w (RLeft w (.error 21)) := by
  have hd : decide (3000 ≤ s.steps) = false := decide_eq_false (by omega)
  have hd1 : decide ((n : Int) < 0) = false := decide_eq_false (by omega)
  have hd2 : decide (ins.length ≤ n) = false := decide_eq_false (by omega)
  have hn0 : decide ((np : Int) < 0) = false := decide_eq_false (by omega)
  have e2 : (op == 2) = true := by simp; omega
  have e3 : (op == 3) = false := by simp; omega
  have e12 : (op == 12) = false := by simp; omega
  have e17 : (op == 17) = false := by simp; omega
  have hn1 : decide (s.stack.length < np) = false := decide_eq_false (by omega)
  have ha0 : decide (a < 0) = true := decide_eq_true ha
  have HPO := Lib.hid hpops
  clear hk hst hpops ha
  have HV := Lib.hid hv
  have HS := Lib.hid hs
  have HP := Lib.hid hp
  have HN := Lib.hid hn
  have HR0 := Lib.hid hr0
  have HPRE := Lib.hid (pre_world w (.cells #[.slice cA ins.length cC, .int .i64 V, .int .i64 P] 24) (.cells #[.int .i64 (n : Nat), .slice vA s.vars.length vC, .slice sA s.stack.length sC, .slice pA s.pts.length pC, .slice nA s.notes.length nC, .int .i64 s.fin, .int .i64 s.steps, .int .i64 s.br, .bool false, .int .i64 0] 55) (.cells #[.int .i64 0, .slice none 0 0, .slice none 0 0, .slice none 0 0, .slice none 0 0, .int .i64 0, .int .i64 0, .int .i64 0, .bool false, .int .i64 0] 55))
  clear hv hs hp hn hr0
  go_enter Tryd.func19, Tryd.ntmps19
  go_upto_region 1 with fail
  obtain ⟨ho, hz, hc, hs3, hB⟩ := HPRE.out
  generalize hw3 : ((w.alloc (.cells #[.slice cA ins.length cC, .int .i64 V, .int .i64 P] 24)).alloc (.cells #[.int .i64 (n : Nat), .slice vA s.vars.length vC, .slice sA s.stack.length sC, .slice pA s.pts.length pC, .slice nA s.notes.length nC, .int .i64 s.fin, .int .i64 s.steps, .int .i64 s.br, .bool false, .int .i64 0] 55)).alloc (.cells #[.int .i64 0, .slice none 0 0, .slice none 0 0, .slice none 0 0, .slice none 0 0, .int .i64 0, .int .i64 0, .int .i64 0, .bool false, .int .i64 0] 55) = w3 at ho hz hc hs3 hB ⊢
  clear hw3 HPRE
  have c0 : w3.cell? ⟨w.heap.size + 1, 0, none⟩ = some (.int .i64 (n : Nat)) := (blk_cell ho 0).trans rfl
  have c1 : w3.cell? ⟨w.heap.size + 1, 1, none⟩ = some (.slice vA s.vars.length vC) := (blk_cell ho 1).trans rfl
  have c2 : w3.cell? ⟨w.heap.size + 1, 2, none⟩ = some (.slice sA s.stack.length sC) := (blk_cell ho 2).trans rfl
  have c3 : w3.cell? ⟨w.heap.size + 1, 3, none⟩ = some (.slice pA s.pts.length pC) := (blk_cell ho 3).trans rfl
  have c4 : w3.cell? ⟨w.heap.size + 1, 4, none⟩ = some (.slice nA s.notes.length nC) := (blk_cell ho 4).trans rfl
  have c5 : w3.cell? ⟨w.heap.size + 1, 5, none⟩ = some (.int .i64 s.fin) := (blk_cell ho 5).trans rfl
  have c6 : w3.cell? ⟨w.heap.size + 1, 6, none⟩ = some (.int .i64 s.steps) := (blk_cell ho 6).trans rfl
  have c7 : w3.cell? ⟨w.heap.size + 1, 7, none⟩ = some (.int .i64 s.br) := (blk_cell ho 7).trans rfl
  have c8 : w3.cell? ⟨w.heap.size + 1, 8, none⟩ = some (.bool false) := (blk_cell ho 8).trans rfl
  have c9 : w3.cell? ⟨w.heap.size + 1, 9, none⟩ = some (.int .i64 0) := (blk_cell ho 9).trans rfl
  have y0 : w3.cell? ⟨w.heap.size + 1 + 1, 0, none⟩ = some (.int .i64 0) := (blk_cell hz 0).trans rfl
  have y1 : w3.cell? ⟨w.heap.size + 1 + 1, 1, none⟩ = some (.slice none 0 0) := (blk_cell hz 1).trans rfl
  have y2 : w3.cell? ⟨w.heap.size + 1 + 1, 2, none⟩ = some (.slice none 0 0) := (blk_cell hz 2).trans rfl
  have y3 : w3.cell? ⟨w.heap.size + 1 + 1, 3, none⟩ = some (.slice none 0 0) := (blk_cell hz 3).trans rfl
  have y4 : w3.cell? ⟨w.heap.size + 1 + 1, 4, none⟩ = some (.slice none 0 0) := (blk_cell hz 4).trans rfl
  have y5 : w3.cell? ⟨w.heap.size + 1 + 1, 5, none⟩ = some (.int .i64 0) := (blk_cell hz 5).trans rfl
  have y6 : w3.cell? ⟨w.heap.size + 1 + 1, 6, none⟩ = some (.int .i64 0) := (blk_cell hz 6).trans rfl
  have y7 : w3.cell? ⟨w.heap.size + 1 + 1, 7, none⟩ = some (.int .i64 0) := (blk_cell hz 7).trans rfl
  have y8 : w3.cell? ⟨w.heap.size + 1 + 1, 8, none⟩ = some (.bool false) := (blk_cell hz 8).trans rfl
  have y9 : w3.cell? ⟨w.heap.size + 1 + 1, 9, none⟩ = some (.int .i64 0) := (blk_cell hz 9).trans rfl
  have k0 : w3.cell? ⟨w.heap.size, 0, none⟩ = some (.slice cA ins.length cC) := (blk_cell hc 0).trans rfl
  have k1 : w3.cell? ⟨w.heap.size, 1, none⟩ = some (.int .i64 V) := (blk_cell hc 1).trans rfl
  have k2 : w3.cell? ⟨w.heap.size, 2, none⟩ = some (.int .i64 P) := (blk_cell hc 2).trans rfl
  have fo := blk_frozen ho
  have fz := blk_frozen hz
  have HO := Lib.hid ho
  have HZ := Lib.hid hz
  have HCD := Lib.hid hc
  have HB := Lib.hid hB
  clear ho hz hc hB hs3
  obtain ⟨ad, hcA, hi0, hi1, hi2⟩ := at_T42 (Kd.C_below HR0.out HB.out) (n : Int) (by omega) (by omega)
  rw [Int.toNat_natCast] at hi0 hi1 hi2
  subst hcA
  have ei0 : w3.cell? (ad.add (n * 3)) = some (.int .i64 op) := hi0.trans (by rw [show (rd_T42 ins n).f0 = op from congrArg (·.1) hop])
  have ei1 : w3.cell? ⟨(ad.add (n * 3)).block, (ad.add (n * 3)).off + 1, none⟩ = some (.int .i64 a) := hi1.trans (by rw [show (rd_T42 ins n).f1 = a from congrArg (·.2.1) hop])
  have ei2 : w3.cell? ⟨(ad.add (n * 3)).block, (ad.add (n * 3)).off + 2, none⟩ = some (.int .i64 b) := hi2.trans (by rw [show (rd_T42 ins n).f2 = b from congrArg (·.2.2) hop])
  clear hi0 hi1 hi2 hop
  go_wp2_with fail
  refine (HPO.out _).mono ?_
  rintro e w' ⟨rfl, rfl⟩
  have HO4 := Lib.hid ((Below.heap_alloc w3 (.cells #[.int .i64 op, .int .i64 a, .int .i64 b] 42) _ (blk_lt HO.out)).trans HO.out)
  have HZ4 := Lib.hid ((Below.heap_alloc w3 (.cells #[.int .i64 op, .int .i64 a, .int .i64 b] 42) _ (blk_lt HZ.out)).trans HZ.out)
  have HC4 := Lib.hid ((Below.heap_alloc w3 (.cells #[.int .i64 op, .int .i64 a, .int .i64 b] 42) _ (blk_lt HCD.out)).trans HCD.out)
  have HI := Lib.hid (heap_alloc_new w3 (.cells #[.int .i64 op, .int .i64 a, .int .i64 b] 42))
  have HB4 := Lib.hid (HB.out.alloc HB.out.size (.cells #[.int .i64 op, .int .i64 a, .int .i64 b] 42))
  have hgo : w3.heap.size ≠ w.heap.size + 1 := fun e => absurd (blk_lt HO.out) (by omega)
  have hgz : w3.heap.size ≠ w.heap.size + 1 + 1 := fun e => absurd (blk_lt HZ.out) (by omega)
  have hgl : w.heap.size ≤ w3.heap.size := HB.out.size
  clear c0 y0 c1 y1 c2 y2 c3 y3 c4 y4 c5 y5 c6 y6 c7 y7 c8 y8 c9 y9 k0 k1 k2 fo fz ei0 ei1 ei2 HO HZ HCD HB
  have HO := HO4
  have HZ := HZ4
  have HCD := HC4
  have HB := HB4
  clear HO4 HZ4 HC4 HB4
  generalize w3.heap.size = gi at HI hgo hgz hgl ⊢
  generalize w3.alloc (.cells #[.int .i64 op, .int .i64 a, .int .i64 b] 42) = w4 at HO HZ HCD HB HI ⊢
  have c0 : w4.cell? ⟨w.heap.size + 1, 0, none⟩ = some (.int .i64 (n : Nat)) := (blk_cell HO.out 0).trans rfl
  have c1 : w4.cell? ⟨w.heap.size + 1, 1, none⟩ = some (.slice vA s.vars.length vC) := (blk_cell HO.out 1).trans rfl
  have c2 : w4.cell? ⟨w.heap.size + 1, 2, none⟩ = some (.slice sA s.stack.length sC) := (blk_cell HO.out 2).trans rfl
  have c3 : w4.cell? ⟨w.heap.size + 1, 3, none⟩ = some (.slice pA s.pts.length pC) := (blk_cell HO.out 3).trans rfl
  have c4 : w4.cell? ⟨w.heap.size + 1, 4, none⟩ = some (.slice nA s.notes.length nC) := (blk_cell HO.out 4).trans rfl
  have c5 : w4.cell? ⟨w.heap.size + 1, 5, none⟩ = some (.int .i64 s.fin) := (blk_cell HO.out 5).trans rfl
  have c6 : w4.cell? ⟨w.heap.size + 1, 6, none⟩ = some (.int .i64 s.steps) := (blk_cell HO.out 6).trans rfl
  have c7 : w4.cell? ⟨w.heap.size + 1, 7, none⟩ = some (.int .i64 s.br) := (blk_cell HO.out 7).trans rfl
  have c8 : w4.cell? ⟨w.heap.size + 1, 8, none⟩ = some (.bool false) := (blk_cell HO.out 8).trans rfl
  have c9 : w4.cell? ⟨w.heap.size + 1, 9, none⟩ = some (.int .i64 0) := (blk_cell HO.out 9).trans rfl
  have y0 : w4.cell? ⟨w.heap.size + 1 + 1, 0, none⟩ = some (.int .i64 0) := (blk_cell HZ.out 0).trans rfl
  have y1 : w4.cell? ⟨w.heap.size + 1 + 1, 1, none⟩ = some (.slice none 0 0) := (blk_cell HZ.out 1).trans rfl
  have y2 : w4.cell? ⟨w.heap.size + 1 + 1, 2, none⟩ = some (.slice none 0 0) := (blk_cell HZ.out 2).trans rfl
  have y3 : w4.cell? ⟨w.heap.size + 1 + 1, 3, none⟩ = some (.slice none 0 0) := (blk_cell HZ.out 3).trans rfl
  have y4 : w4.cell? ⟨w.heap.size + 1 + 1, 4, none⟩ = some (.slice none 0 0) := (blk_cell HZ.out 4).trans rfl
  have y5 : w4.cell? ⟨w.heap.size + 1 + 1, 5, none⟩ = some (.int .i64 0) := (blk_cell HZ.out 5).trans rfl
  have y6 : w4.cell? ⟨w.heap.size + 1 + 1, 6, none⟩ = some (.int .i64 0) := (blk_cell HZ.out 6).trans rfl
  have y7 : w4.cell? ⟨w.heap.size + 1 + 1, 7, none⟩ = some (.int .i64 0) := (blk_cell HZ.out 7).trans rfl
  have y8 : w4.cell? ⟨w.heap.size + 1 + 1, 8, none⟩ = some (.bool false) := (blk_cell HZ.out 8).trans rfl
  have y9 : w4.cell? ⟨w.heap.size + 1 + 1, 9, none⟩ = some (.int .i64 0) := (blk_cell HZ.out 9).trans rfl
  have k0 : w4.cell? ⟨w.heap.size, 0, none⟩ = some (.slice (some ad) ins.length cC) := (blk_cell HCD.out 0).trans rfl
  have k1 : w4.cell? ⟨w.heap.size, 1, none⟩ = some (.int .i64 V) := (blk_cell HCD.out 1).trans rfl
  have k2 : w4.cell? ⟨w.heap.size, 2, none⟩ = some (.int .i64 P) := (blk_cell HCD.out 2).trans rfl
  have i0 : w4.cell? ⟨gi, 0, none⟩ = some (.int .i64 op) := (blk_cell HI.out 0).trans rfl
  have i1 : w4.cell? ⟨gi, 1, none⟩ = some (.int .i64 a) := (blk_cell HI.out 1).trans rfl
  have i2 : w4.cell? ⟨gi, 2, none⟩ = some (.int .i64 b) := (blk_cell HI.out 2).trans rfl
  have fo := blk_frozen HO.out
  have fz := blk_frozen HZ.out
  go_wp2_with fail
  exact err_end { s with pc := n } vA sA pA nA vC sC pC nC HV.out HS.out HP.out HN.out HZ.out HB.out 21 (by decide) _ rfl
set_option maxRecDepth 100000 in
set_option maxHeartbeats 4000000 in
theorem rstep_bad_var2hi {w : World} (cA : Option Addr) (cC : Nat) (ins : List S42) (V P : Int) (s : St) (vA sA pA nA : Option Addr) (vC sC pC nC : Nat) (gA : Option Addr) (gC : Nat) (gl : List Int) (hr0 : Kd.C k42 w cA ins.length ins) (hv : RD w (.slice vA s.vars.length vC) s.vars) (hs : RD w (.slice sA s.stack.length sC) s.stack) (hp : RD w (.slice pA s.pts.length pC) s.pts) (hn : RD w (.slice nA s.notes.length nC) s.notes) (h3 : s.steps < 3000) (n : Nat) (hnL : n < ins.length) (op a b : Int) (hop : (insF ins n) = (op, a, b)) (np : Nat) (hpops : ∀ w, Calls Tryd.prog 23 #[.int .i64 op] w fun e w' => e = .returned (.int .i64 (np : Nat)) ∧ w = w') (hk : op = 2) (hst : np ≤ s.stack.length) (ha : (s.vars.length : Int) ≤ a) :
    Calls Tryd.prog 19 #[.agg #[.slice cA ins.length cC, .int .i64 V, .int .i64 P], .agg (stC (n : Nat) (.slice vA s.vars.length vC) (.slice sA s.stack.length sC) (.slice pA s.pts.length pC) (.slice nA s.notes.length nC) s.fin s.steps s.br false 0), .slice gA gl.length gC] w (RLeft w (.error 21)) := by
  have hd : decide (3000 ≤ s.steps) = false := decide_eq_false (by omega)
  have hd1 : decide ((n : Int) < 0) = false := decide_eq_false (by omega)
  have hd2 : decide (ins.length ≤ n) = false := decide_eq_false (by omega)
  have hn0 : decide ((np : Int) < 0) = false := decide_eq_false (by omega)
  have e2 : (op == 2) = true := by simp; omega
  have e3 : (op == 3) = false := by simp; omega
  have e12 : (op == 12) = false := by simp; omega
  have e17 : (op == 17) = false := by simp; omega
  have hn1 : decide (s.stack.length < np) = false := decide_eq_false (by omega)
  have ha0 : decide (a < 0) = false := decide_eq_false (by omega)
  have ha1 : decide ((s.vars.length : Int) ≤ a) = true := decide_eq_true ha
  have HPO := Lib.hid hpops
  clear hk hst hpops ha
  have HV := Lib.hid hv
  have HS := Lib.hid hs
  have HP := Lib.hid hp
  have HN := Lib.hid hn
  have HR0 := Lib.hid hr0
  have HPRE := Lib.hid (pre_world w (.cells #[.slice cA ins.length cC, .int .i64 V, .int .i64 P] 24) (.cells #[.int .i64 (n : Nat), .slice vA s.vars.length vC, .slice sA s.stack.length sC, .slice pA s.pts.length pC, .slice nA s.notes.length nC, .int .i64 s.fin, .int .i64 s.steps, .int .i64 s.br, .bool false, .int .i64 0] 55) (.cells #[.int .i64 0, .slice none 0 0, .slice none 0 0, .slice none 0 0, .slice none 0 0, .int .i64 0, .int .i64 0, .int .i64 0, .bool false, .int .i64 0] 55))
  clear hv hs hp hn hr0
  go_enter Tryd.func19, Tryd.ntmps19
  go_upto_region 1 with fail
  obtain ⟨ho, hz, hc, hs3, hB⟩ := HPRE.out
  generalize hw3 : ((w.alloc (.cells #[.slice cA ins.length cC, .int .i64 V, .int .i64 P] 24)).alloc (.cells #[.int .i64 (n : Nat), .slice vA s.vars.length vC, .slice sA s.stack.length sC, .slice pA s.pts.length pC, .slice nA s.notes.length nC, .int .i64 s.fin, .int .i64 s.steps, .int .i64 s.br, .bool false, .int .i64 0] 55)).alloc (.cells #[.int .i64 0, .slice none 0 0, .slice none 0 0, .slice none 0 0, .slice none 0 0, .int .i64 0, .int .i64 0, .int .i64 0, .bool false, .int .i64 0] 55) = w3 at ho hz hc hs3 hB ⊢
  clear hw3 HPRE
  have c0 : w3.cell? ⟨w.heap.size + 1, 0, none⟩ = some (.int .i64 (n : Nat)) := (blk_cell ho 0).trans rfl
  have c1 : w3.cell? ⟨w.heap.size + 1, 1, none⟩ = some (.slice vA s.vars.length vC) := (blk_cell ho 1).trans rfl
  have c2 : w3.cell? ⟨w.heap.size + 1, 2, none⟩ = some (.slice sA s.stack.length sC) := (blk_cell ho 2).trans rfl
  have c3 : w3.cell? ⟨w.heap.size + 1, 3, none⟩ = some (.slice pA s.pts.length pC) := (blk_cell ho 3).trans rfl
  have c4 : w3.cell? ⟨w.heap.size + 1, 4, none⟩ = some (.slice nA s.notes.length nC) := (blk_cell ho 4).trans rfl
  have c5 : w3.cell? ⟨w.heap.size + 1, 5, none⟩ = some (.int .i64 s.fin) := (blk_cell ho 5).trans rfl
  have c6 : w3.cell? ⟨w.heap.size + 1, 6, none⟩ = some (.int .i64 s.steps) := (blk_cell ho 6).trans rfl
  have c7 : w3.cell? ⟨w.heap.size + 1, 7, none⟩ = some (.int .i64 s.br) := (blk_cell ho 7).trans rfl
  have c8 : w3.cell? ⟨w.heap.size + 1, 8, none⟩ = some (.bool false) := (blk_cell ho 8).trans rfl
  have c9 : w3.cell? ⟨w.heap.size + 1, 9, none⟩ = some (.int .i64 0) := (blk_cell ho 9).trans rfl
  have y0 : w3.cell? ⟨w.heap.size + 1 + 1, 0, none⟩ = some (.int .i64 0) := (blk_cell hz 0).trans rfl
  have y1 : w3.cell? ⟨w.heap.size + 1 + 1, 1, none⟩ = some (.slice none 0 0) := (blk_cell hz 1).trans rfl
  have y2 : w3.cell? ⟨w.heap.size + 1 + 1, 2, none⟩ = some (.slice none 0 0) := (blk_cell hz 2).trans rfl
  have y3 : w3.cell? ⟨w.heap.size + 1 + 1, 3, none⟩ = some (.slice none 0 0) := (blk_cell hz 3).trans rfl
  have y4 : w3.cell? ⟨w.heap.size + 1 + 1, 4, none⟩ = some (.slice none 0 0) := (blk_cell hz 4).trans rfl
  have y5 : w3.cell? ⟨w.heap.size + 1 + 1, 5, none⟩ = some (.int .i64 0) := (blk_cell hz 5).trans rfl
  have y6 : w3.cell? ⟨w.heap.size + 1 + 1, 6, none⟩ = some (.int .i64 0) := (blk_cell hz 6).trans rfl
  have y7 : w3.cell? ⟨w.heap.size + 1 + 1, 7, none⟩ = some (.int .i64 0) := (blk_cell hz 7).trans rfl
  have y8 : w3.cell? ⟨w.heap.size + 1 + 1, 8, none⟩ = some (.bool false) := (blk_cell hz 8).trans rfl
  have y9 : w3.cell? ⟨w.heap.size + 1 + 1, 9, none⟩ = some (.int .i64 0) := (blk_cell hz 9).trans rfl
  have k0 : w3.cell? ⟨w.heap.size, 0, none⟩ = some (.slice cA ins.length cC) := (blk_cell hc 0).trans rfl
  have k1 : w3.cell? ⟨w.heap.size, 1, none⟩ = some (.int .i64 V) := (blk_cell hc 1).trans rfl
  have k2 : w3.cell? ⟨w.heap.size, 2, none⟩ = some (.int .i64 P) := (blk_cell hc 2).trans rfl
  have fo := blk_frozen ho
  have fz := blk_frozen hz
  have HO := Lib.hid ho
  have HZ := Lib.hid hz
  have HCD := Lib.hid hc
  have HB := Lib.hid hB
  clear ho hz hc hB hs3
  obtain ⟨ad, hcA, hi0, hi1, hi2⟩ := at_T42 (Kd.C_below HR0.out HB.out) (n : Int) (by omega) (by omega)
  rw [Int.toNat_natCast] at hi0 hi1 hi2
  subst hcA
  have ei0 : w3.cell? (ad.add (n * 3)) = some (.int .i64 op) := hi0.trans (by rw [show (rd_T42 ins n).f0 = op from congrArg (·.1) hop])
  have ei1 : w3.cell? ⟨(ad.add (n * 3)).block, (ad.add (n * 3)).off + 1, none⟩ = some (.int .i64 a) := hi1.trans (by rw [show (rd_T42 ins n).f1 = a from congrArg (·.2.1) hop])
  have ei2 : w3.cell? ⟨(ad.add (n * 3)).block, (ad.add (n * 3)).off + 2, none⟩ = some (.int .i64 b) := hi2.trans (by rw [show (rd_T42 ins n).f2 = b from congrArg (·.2.2) hop])
  clear hi0 hi1 hi2 hop
  go_wp2_with fail
  refine (HPO.out _).mono ?_
  rintro e w' ⟨rfl, rfl⟩
  have HO4 := Lib.hid ((Below.heap_alloc w3 (.cells #[.int .i64 op, .int .i64 a, .int .i64 b] 42) _ (blk_lt HO.out)).trans HO.out)
  have HZ4 := Lib.hid ((Below.heap_alloc w3 (.cells #[.int .i64 op, .int .i64 a, .int .i64 b] 42) _ (blk_lt HZ.out)).trans HZ.out)
  have HC4 := Lib.hid ((Below.heap_alloc w3 (.cells #[.int .i64 op, .int .i64 a, .int .i64 b] 42) _ (blk_lt HCD.out)).trans HCD.out)
  have HI := Lib.hid (heap_alloc_new w3 (.cells #[.int .i64 op, .int .i64 a, .int .i64 b] 42))
  have HB4 := Lib.hid (HB.out.alloc HB.out.size (.cells #[.int .i64 op, .int .i64 a, .int .i64 b] 42))
  have hgo : w3.heap.size ≠ w.heap.size + 1 := fun e => absurd (blk_lt HO.out) (by omega)
  have hgz : w3.heap.size ≠ w.heap.size + 1 + 1 := fun e => absurd (blk_lt HZ.out) (by omega)
  have hgl : w.heap.size ≤ w3.heap.size := HB.out.size
  clear c0 y0 c1 y1 c2 y2 c3 y3 c4 y4 c5 y5 c6 y6 c7 y7 c8 y8 c9 y9 k0 k1 k2 fo fz ei0 ei1 ei2 HO HZ HCD HB
  have HO := HO4
  have HZ := HZ4
  have HCD := HC4
  have HB := HB4
  clear HO4 HZ4 HC4 HB4
  generalize w3.heap.size = gi at HI hgo hgz hgl ⊢
  generalize w3.alloc (.cells #[.int .i64 op, .int .i64 a, .int .i64 b] 42) = w4 at HO HZ HCD HB HI ⊢
  have c0 : w4.cell? ⟨w.heap.size + 1, 0, none⟩ = some (.int .i64 (n : Nat)) := (blk_cell HO.out 0).trans rfl
  have c1 : w4.cell? ⟨w.heap.size + 1, 1, none⟩ = some (.slice vA s.vars.length vC) := (blk_cell HO.out 1).trans rfl
  have c2 : w4.cell? ⟨w.heap.size + 1, 2, none⟩ = some (.slice sA s.stack.length sC) := (blk_cell HO.out 2).trans rfl
  have c3 : w4.cell? ⟨w.heap.size + 1, 3, none⟩ = some (.slice pA s.pts.length pC) := (blk_cell HO.out 3).trans rfl
  have c4 : w4.cell? ⟨w.heap.size + 1, 4, none⟩ = some (.slice nA s.notes.length nC) := (blk_cell HO.out 4).trans rfl
  have c5 : w4.cell? ⟨w.heap.size + 1, 5, none⟩ = some (.int .i64 s.fin) := (blk_cell HO.out 5).trans rfl
  have c6 : w4.cell? ⟨w.heap.size + 1, 6, none⟩ = some (.int .i64 s.steps) := (blk_cell HO.out 6).trans rfl
  have c7 : w4.cell? ⟨w.heap.size + 1, 7, none⟩ = some (.int .i64 s.br) := (blk_cell HO.out 7).trans rfl
  have c8 : w4.cell? ⟨w.heap.size + 1, 8, none⟩ = some (.bool false) := (blk_cell HO.out 8).trans rfl
  have c9 : w4.cell? ⟨w.heap.size + 1, 9, none⟩ = some (.int .i64 0) := (blk_cell HO.out 9).trans rfl
  have y0 : w4.cell? ⟨w.heap.size + 1 + 1, 0, none⟩ = some (.int .i64 0) := (blk_cell HZ.out 0).trans rfl
  have y1 : w4.cell? ⟨w.heap.size + 1 + 1, 1, none⟩ = some (.slice none 0 0) := (blk_cell HZ.out 1).trans rfl
  have y2 : w4.cell? ⟨w.heap.size + 1 + 1, 2, none⟩ = some (.slice none 0 0) := (blk_cell HZ.out 2).trans rfl
  have y3 : w4.cell? ⟨w.heap.size + 1 + 1, 3, none⟩ = some (.slice none 0 0) := (blk_cell HZ.out 3).trans rfl
  have y4 : w4.cell? ⟨w.heap.size + 1 + 1, 4, none⟩ = some (.slice none 0 0) := (blk_cell HZ.out 4).trans rfl
  have y5 : w4.cell? ⟨w.heap.size + 1 + 1, 5, none⟩ = some (.int .i64 0) := (blk_cell HZ.out 5).trans rfl
  have y6 : w4.cell? ⟨w.heap.size + 1 + 1, 6, none⟩ = some (.int .i64 0) := (blk_cell HZ.out 6).trans rfl
  have y7 : w4.cell? ⟨w.heap.size + 1 + 1, 7, none⟩ = some (.int .i64 0) := (blk_cell HZ.out 7).trans rfl
  have y8 : w4.cell? ⟨w.heap.size + 1 + 1, 8, none⟩ = some (.bool false) := (blk_cell HZ.out 8).trans rfl
  have y9 : w4.cell? ⟨w.heap.size + 1 + 1, 9, none⟩ = some (.int .i64 0) := (blk_cell HZ.out 9).trans rfl
  have k0 : w4.cell? ⟨w.heap.size, 0, none⟩ = some (.slice (some ad) ins.length cC) := (blk_cell HCD.out 0).trans rfl
  have k1 : w4.cell? ⟨w.heap.size, 1, none⟩ = some (.int .i64 V) := (blk_cell HCD.out 1).trans rfl
  have k2 : w4.cell? ⟨w.heap.size, 2, none⟩ = some (.int .i64 P) := (blk_cell HCD.out 2).trans rfl
  have i0 : w4.cell? ⟨gi, 0, none⟩ = some (.int .i64 op) := (blk_cell HI.out 0).trans rfl
  have i1 : w4.cell? ⟨gi, 1, none⟩ = some (.int .i64 a) := (blk_cell HI.out 1).trans rfl
  have i2 : w4.cell? ⟨gi, 2, none⟩ = some (.int .i64 b) := (blk_cell HI.out 2).trans rfl
  have fo := blk_frozen HO.out
  have fz := blk_frozen HZ.out
  go_wp2_with fail
  exact err_end { s with pc := n } vA sA pA nA vC sC pC nC HV.out HS.out HP.out HN.out HZ.out HB.out 21 (by decide) _ rfl
set_option maxRecDepth 100000 in
set_option maxHeartbeats 4000000 in
theorem rstep_bad_var3lo {w : World} (cA : Option Addr) (cC : Nat) (ins : List S42) (V P : Int) (s : St) (vA sA pA nA : Option Addr) (vC sC pC nC : Nat) (gA : Option Addr) (gC : Nat) (gl : List Int) (hr0 : Kd.C k42 w cA ins.length ins) (hv : RD w (.slice vA s.vars.length vC) s.vars) (hs : RD w (.slice sA s.stack.length sC) s.stack) (hp : RD w (.slice pA s.pts.length pC) s.pts) (hn : RD w (.slice nA s.notes.length nC) s.notes) (h3 : s.steps < 3000) (n : Nat) (hnL : n < ins.length) (op a b : Int) (hop : (insF ins n) = (op, a, b)) (np : Nat) (hpops : ∀ w, Calls Tryd.prog 23 #[.int .i64 op] w fun e w' => e = .returned (.int .i64 (np : Nat)) ∧ w = w') (hk : op = 3) (hst : np ≤ s.stack.length) (ha : a < 0) :
    Calls Tryd.prog 19 #[.agg #[.slice cA ins.length cC, .int .i64 V, .int .i64 P], .agg (stC (n : Nat) (.slice vA s.vars.length vC) (.slice sA s.stack.length sC) (.slice pA s.pts.length pC) (.slice nA s.notes.length nC) s.fin s.steps s.br false 0), .slice gA gl.length gC] w (RLeft w (.error 21)) := by
  have hd : decide (3000 ≤ s.steps) = false := decide_eq_false (by omega)
  have hd1 : decide ((n : Int) < 0) = false := decide_eq_false (by omega)
  have hd2 : decide (ins.length ≤ n) = false := decide_eq_false (by omega)
  have hn0 : decide ((np : Int) < 0) = false := decide_eq_false (by omega)
  have e2 : (op == 2) = false := by simp; omega
  have e3 : (op == 3) = true := by simp; omega
  have e12 : (op == 12) = false := by simp; omega
  have e17 : (op == 17) = false := by simp; omega
  have hn1 : decide (s.stack.length < np) = false := decide_eq_false (by omega)
  have ha0 : decide (a < 0) = true := decide_eq_true ha
  have HPO := Lib.hid hpops
  clear hk hst hpops ha
  have HV := Lib.hid hv
  have HS := Lib.hid hs
  have HP := Lib.hid hp
  have HN := Lib.hid hn
  have HR0 := Lib.hid hr0
  have HPRE := Lib.hid (pre_world w (.cells #[.slice cA ins.length cC, .int .i64 V, .int .i64 P] 24) (.cells #[.int .i64 (n : Nat), .slice vA s.vars.length vC, .slice sA s.stack.length sC, .slice pA s.pts.length pC, .slice nA s.notes.length nC, .int .i64 s.fin, .int .i64 s.steps, .int .i64 s.br, .bool false, .int .i64 0] 55) (.cells #[.int .i64 0, .slice none 0 0, .slice none 0 0, .slice none 0 0, .slice none 0 0, .int .i64 0, .int .i64 0, .int .i64 0, .bool false, .int .i64 0] 55))
  clear hv hs hp hn hr0
  go_enter Tryd.func19, Tryd.ntmps19
  go_upto_region 1 with fail
  obtain ⟨ho, hz, hc, hs3, hB⟩ := HPRE.out
  generalize hw3 : ((w.alloc (.cells #[.slice cA ins.length cC, .int .i64 V, .int .i64 P] 24)).alloc (.cells #[.int .i64 (n : Nat), .slice vA s.vars.length vC, .slice sA s.stack.length sC, .slice pA s.pts.length pC, .slice nA s.notes.length nC, .int .i64 s.fin, .int .i64 s.steps, .int .i64 s.br, .bool false, .int .i64 0] 55)).alloc (.cells #[.int .i64 0, .slice none 0 0, .slice none 0 0, .slice none 0 0, .slice none 0 0, .int .i64 0, .int .i64 0, .int .i64 0, .bool false, .int .i64 0] 55) = w3 at ho hz hc hs3 hB ⊢
  clear hw3 HPRE
  have c0 : w3.cell? ⟨w.heap.size + 1, 0, none⟩ = some (.int .i64 (n : Nat)) := (blk_cell ho 0).trans rfl
  have c1 : w3.cell? ⟨w.heap.size + 1, 1, none⟩ = some (.slice vA s.vars.length vC) := (blk_cell ho 1).trans rfl
  have c2 : w3.cell? ⟨w.heap.size + 1, 2, none⟩ = some (.slice sA s.stack.length sC) := (blk_cell ho 2).trans rfl
  have c3 : w3.cell? ⟨w.heap.size + 1, 3, none⟩ = some (.slice pA s.pts.length pC) := (blk_cell ho 3).trans rfl
  have c4 : w3.cell? ⟨w.heap.size + 1, 4, none⟩ = some (.slice nA s.notes.length nC) := (blk_cell ho 4).trans rfl
  have c5 : w3.cell? ⟨w.heap.size + 1, 5, none⟩ = some (.int .i64 s.fin) := (blk_cell ho 5).trans rfl
  have c6 : w3.cell? ⟨w.heap.size + 1, 6, none⟩ = some (.int .i64 s.steps) := (blk_cell ho 6).trans rfl
  have c7 : w3.cell? ⟨w.heap.size + 1, 7, none⟩ = some (.int .i64 s.br) := (blk_cell ho 7).trans rfl
  have c8 : w3.cell? ⟨w.heap.size + 1, 8, none⟩ = some (.bool false) := (blk_cell ho 8).trans rfl
  have c9 : w3.cell? ⟨w.heap.size + 1, 9, none⟩ = some (.int .i64 0) := (blk_cell ho 9).trans rfl
  have y0 : w3.cell? ⟨w.heap.size + 1 + 1, 0, none⟩ = some (.int .i64 0) := (blk_cell hz 0).trans rfl
  have y1 : w3.cell? ⟨w.heap.size + 1 + 1, 1, none⟩ = some (.slice none 0 0) := (blk_cell hz 1).trans rfl
  have y2 : w3.cell? ⟨w.heap.size + 1 + 1, 2, none⟩ = some (.slice none 0 0) := (blk_cell hz 2).trans rfl
  have y3 : w3.cell? ⟨w.heap.size + 1 + 1, 3, none⟩ = some (.slice none 0 0) := (blk_cell hz 3).trans rfl
  have y4 : w3.cell? ⟨w.heap.size + 1 + 1, 4, none⟩ = some (.slice none 0 0) := (blk_cell hz 4).trans rfl
  have y5 : w3.cell? ⟨w.heap.size + 1 + 1, 5, none⟩ = some (.int .i64 0) := (blk_cell hz 5).trans rfl
  have y6 : w3.cell? ⟨w.heap.size + 1 + 1, 6, none⟩ = some (.int .i64 0) := (blk_cell hz 6).trans rfl
  have y7 : w3.cell? ⟨w.heap.size + 1 + 1, 7, none⟩ = some (.int .i64 0) := (blk_cell hz 7).trans rfl
  have y8 : w3.cell? ⟨w.heap.size + 1 + 1, 8, none⟩ = some (.bool false) := (blk_cell hz 8).trans rfl
  have y9 : w3.cell? ⟨w.heap.size + 1 + 1, 9, none⟩ = some (.int .i64 0) := (blk_cell hz 9).trans rfl
  have k0 : w3.cell? ⟨w.heap.size, 0, none⟩ = some (.slice cA ins.length cC) := (blk_cell hc 0).trans rfl
  have k1 : w3.cell? ⟨w.heap.size, 1, none⟩ = some (.int .i64 V) := (blk_cell hc 1).trans rfl
  have k2 : w3.cell? ⟨w.heap.size, 2, none⟩ = some (.int .i64 P) := (blk_cell hc 2).trans rfl
  have fo := blk_frozen ho
  have fz := blk_frozen hz
  have HO := Lib.hid ho
  have HZ := Lib.hid hz
  have HCD := Lib.hid hc
  have HB := Lib.hid hB
  clear ho hz hc hB hs3
  obtain ⟨ad, hcA, hi0, hi1, hi2⟩ := at_T42 (Kd.C_below HR0.out HB.out) (n : Int) (by omega) (by omega)
  rw [Int.toNat_natCast] at hi0 hi1 hi2
  subst hcA
  have ei0 : w3.cell? (ad.add (n * 3)) = some (.int .i64 op) := hi0.trans (by rw [show (rd_T42 ins n).f0 = op from congrArg (·.1) hop])
  have ei1 : w3.cell? ⟨(ad.add (n * 3)).block, (ad.add (n * 3)).off + 1, none⟩ = some (.int .i64 a) := hi1.trans (by rw [show (rd_T42 ins n).f1 = a from congrArg (·.2.1) hop])
  have ei2 : w3.cell? ⟨(ad.add (n * 3)).block, (ad.add (n * 3)).off + 2, none⟩ = some (.int .i64 b) := hi2.trans (by rw [show (rd_T42 ins n).f2 = b from congrArg (·.2.2) hop])
  clear hi0 hi1 hi2 hop
  go_wp2_with fail
  refine (HPO.out _).mono ?_
  rintro e w' ⟨rfl, rfl⟩
  have HO4 := Lib.hid ((Below.heap_alloc w3 (.cells #[.int .i64 op, .int .i64 a, .int .i64 b] 42) _ (blk_lt HO.out)).trans HO.out)
  have HZ4 := Lib.hid ((Below.heap_alloc w3 (.cells #[.int .i64 op, .int .i64 a, .int .i64 b] 42) _ (blk_lt HZ.out)).trans HZ.out)
  have HC4 := Lib.hid ((Below.heap_alloc w3 (.cells #[.int .i64 op, .int .i64 a, .int .i64 b] 42) _ (blk_lt HCD.out)).trans HCD.out)
  have HI := Lib.hid (heap_alloc_new w3 (.cells #[.int .i64 op, .int .i64 a, .int .i64 b] 42))
  have HB4 := Lib.hid (HB.out.alloc HB.out.size (.cells #[.int .i64 op, .int .i64 a, .int .i64 b] 42))
  have hgo : w3.heap.size ≠ w.heap.size + 1 := fun e => absurd (blk_lt HO.out) (by omega)
  have hgz : w3.heap.size ≠ w.heap.size + 1 + 1 := fun e => absurd (blk_lt HZ.out) (by omega)
  have hgl : w.heap.size ≤ w3.heap.size := HB.out.size
  clear c0 y0 c1 y1 c2 y2 c3 y3 c4 y4 c5 y5 c6 y6 c7 y7 c8 y8 c9 y9 k0 k1 k2 fo fz ei0 ei1 ei2 HO HZ HCD HB
  have HO := HO4
  have HZ := HZ4
  have HCD := HC4
  have HB := HB4
  clear HO4 HZ4 HC4 HB4
  generalize w3.heap.size = gi at HI hgo hgz hgl ⊢
  generalize w3.alloc (.cells #[.int .i64 op, .int .i64 a, .int .i64 b] 42) = w4 at HO HZ HCD HB HI ⊢
  have c0 : w4.cell? ⟨w.heap.size + 1, 0, none⟩ = some (.int .i64 (n : Nat)) := (blk_cell HO.out 0).trans rfl
  have c1 : w4.cell? ⟨w.heap.size + 1, 1, none⟩ = some (.slice vA s.vars.length vC) := (blk_cell HO.out 1).trans rfl
  have c2 : w4.cell? ⟨w.heap.size + 1, 2, none⟩ = some (.slice sA s.stack.length sC) := (blk_cell HO.out 2).trans rfl
  have c3 : w4.cell? ⟨w.heap.size + 1, 3, none⟩ = some (.slice pA s.pts.length pC) := (blk_cell HO.out 3).trans rfl
  have c4 : w4.cell? ⟨w.heap.size + 1, 4, none⟩ = some (.slice nA s.notes.length nC) := (blk_cell HO.out 4).trans rfl
  have c5 : w4.cell? ⟨w.heap.size + 1, 5, none⟩ = some (.int .i64 s.fin) := (blk_cell HO.out 5).trans rfl
  have c6 : w4.cell? ⟨w.heap.size + 1, 6, none⟩ = some (.int .i64 s.steps) := (blk_cell HO.out 6).trans rfl
  have c7 : w4.cell? ⟨w.heap.size + 1, 7, none⟩ = some (.int .i64 s.br) := (blk_cell HO.out 7).trans rfl
  have c8 : w4.cell? ⟨w.heap.size + 1, 8, none⟩ = some (.bool false) := (blk_cell HO.out 8).trans rfl
  have c9 : w4.cell? ⟨w.heap.size + 1, 9, none⟩ = some (.int .i64 0) := (blk_cell HO.out 9).trans rfl
  have y0 : w4.cell? ⟨w.heap.size + 1 + 1, 0, none⟩ = some (.int .i64 0) := (blk_cell HZ.out 0).trans rfl
  have y1 : w4.cell? ⟨w.heap.size + 1 + 1, 1, none⟩ = some (.slice none 0 0) := (blk_cell HZ.out 1).trans rfl
  have y2 : w4.cell? ⟨w.heap.size + 1 + 1, 2, none⟩ = some (.slice none 0 0) := (blk_cell HZ.out 2).trans rfl
  have y3 : w4.cell? ⟨w.heap.size + 1 + 1, 3, none⟩ = some (.slice none 0 0) := (blk_cell HZ.out 3).trans rfl
  have y4 : w4.cell? ⟨w.heap.size + 1 + 1, 4, none⟩ = some (.slice none 0 0) := (blk_cell HZ.out 4).trans rfl
  have y5 : w4.cell? ⟨w.heap.size + 1 + 1, 5, none⟩ = some (.int .i64 0) := (blk_cell HZ.out 5).trans rfl
  have y6 : w4.cell? ⟨w.heap.size + 1 + 1, 6, none⟩ = some (.int .i64 0) := (blk_cell HZ.out 6).trans rfl
  have y7 : w4.cell? ⟨w.heap.size + 1 + 1, 7, none⟩ = some (.int .i64 0) := (blk_cell HZ.out 7).trans rfl
  have y8 : w4.cell? ⟨w.heap.size + 1 + 1, 8, none⟩ = some (.bool false) := (blk_cell HZ.out 8).trans rfl
  have y9 : w4.cell? ⟨w.heap.size + 1 + 1, 9, none⟩ = some (.int .i64 0) := (blk_cell HZ.out 9).trans rfl
  have k0 : w4.cell? ⟨w.heap.size, 0, none⟩ = some (.slice (some ad) ins.length cC) := (blk_cell HCD.out 0).trans rfl
  have k1 : w4.cell? ⟨w.heap.size, 1, none⟩ = some (.int .i64 V) := (blk_cell HCD.out 1).trans rfl
  have k2 : w4.cell? ⟨w.heap.size, 2, none⟩ = some (.int .i64 P) := (blk_cell HCD.out 2).trans rfl
  have i0 : w4.cell? ⟨gi, 0, none⟩ = some (.int .i64 op) := (blk_cell HI.out 0).trans rfl
  have i1 : w4.cell? ⟨gi, 1, none⟩ = some (.int .i64 a) := (blk_cell HI.out 1).trans rfl
  have i2 : w4.cell? ⟨gi, 2, none⟩ = some (.int .i64 b) := (blk_cell HI.out 2).trans rfl
  have fo := blk_frozen HO.out
  have fz := blk_frozen HZ.out
  go_wp2_with fail
  exact err_end { s with pc := n } vA sA pA nA vC sC pC nC HV.out HS.out HP.out HN.out HZ.out HB.out 21 (by decide) _ rfl
set_option maxRecDepth 100000 in
set_option maxHeartbeats 4000000 in
theorem rstep_bad_var3hi {w : World} (cA : Option Addr) (cC : Nat) (ins : List S42) (V P : Int) (s : St) (vA sA pA nA : Option Addr) (vC sC pC nC : Nat) (gA : Option Addr) (gC : Nat) (gl : List Int) (hr0 : Kd.C k42 w cA ins.length ins) (hv : RD w (.slice vA s.vars.length vC) s.vars) (hs : RD w (.slice sA s.stack.length sC) s.stack) (hp : RD w (.slice pA s.pts.length pC) s.pts) (hn : RD w (.slice nA s.notes.length nC) s.notes) (h3 : s.steps < 3000) (n : Nat) (hnL : n < ins.length) (op a b : Int) (hop : (insF ins n) = (op, a, b)) (np : Nat) (hpops : ∀ w, Calls Tryd.prog 23 #[.int .i64 op] w fun e w' => e = .returned (.int .i64 (np : Nat)) ∧ w = w') (hk : op = 3) (hst : np ≤ s.stack.length) (ha : (s.vars.length : Int) ≤ a) :
    Calls Tryd.prog 19 #[.agg #[.slice cA ins.length cC, .int .i64 V, .int .i64 P], .agg (stC (n : Nat) (.slice vA s.vars.length vC) (.slice sA s.stack.length sC) (.slice pA s.pts.length pC) (.slice nA s.notes.length nC) s.fin s.steps s.br false 0), .slice gA gl.length gC] w (RLeft w (.error 21)) := by
  have hd : decide (3000 ≤ s.steps) = false := decide_eq_false (by omega)
  have hd1 : decide ((n : Int) < 0) = false := decide_eq_false (by omega)
  have hd2 : decide (ins.length ≤ n) = false := decide_eq_false (by omega)
  have hn0 : decide ((np : Int) < 0) = false := decide_eq_false (by omega)
  have e2 : (op == 2) = false := by simp; omega
  have e3 : (op == 3) = true := by simp; omega
  have e12 : (op == 12) = false := by simp; omega
  have e17 : (op == 17) = false := by simp; omega
  have hn1 : decide (s.stack.length < np) = false := decide_eq_false (by omega)
  have ha0 : decide (a < 0) = false := decide_eq_false (by omega)
  have ha1 : decide ((s.vars.length : Int) ≤ a) = true := decide_eq_true ha
  have HPO := Lib.hid hpops
  clear hk hst hpops ha
  have HV := Lib.hid hv
  have HS := Lib.hid hs
  have HP := Lib.hid hp
  have HN := Lib.hid hn
  have HR0 := Lib.hid hr0
  have HPRE := Lib.hid (pre_world w (.cells #[.slice cA ins.length cC, .int .i64 V, .int .i64 P] 24) (.cells #[.int .i64 (n : Nat), .slice vA s.vars.length vC, .slice sA s.stack.length sC, .slice pA s.pts.length pC, .slice nA s.notes.length nC, .int .i64 s.fin, .int .i64 s.steps, .int .i64 s.br, .bool false, .int .i64 0] 55) (.cells #[.int .i64 0, .slice none 0 0, .slice none 0 0, .slice none 0 0, .slice none 0 0, .int .i64 0, .int .i64 0, .int .i64 0, .bool false, .int .i64 0] 55))
  clear hv hs hp hn hr0
  go_enter Tryd.func19, Tryd.ntmps19
  go_upto_region 1 with fail
  obtain ⟨ho, hz, hc, hs3, hB⟩ := HPRE.out
  generalize hw3 : ((w.alloc (.cells #[.slice cA ins.length cC, .int .i64 V, .int .i64 P] 24)).alloc (.cells #[.int .i64 (n : Nat), .slice vA s.vars.length vC, .slice sA s.stack.length sC, .slice pA s.pts.length pC, .slice nA s.notes.length nC, .int .i64 s.fin, .int .i64 s.steps, .int .i64 s.br, .bool false, .int .i64 0] 55)).alloc (.cells #[.int .i64 0, .slice none 0 0, .slice none 0 0, .slice none 0 0, .slice none 0 0, .int .i64 0, .int .i64 0, .int .i64 0, .bool false, .int .i64 0] 55) = w3 at ho hz hc hs3 hB ⊢
  clear hw3 HPRE
  have c0 : w3.cell? ⟨w.heap.size + 1, 0, none⟩ = some (.int .i64 (n : Nat)) := (blk_cell ho 0).trans rfl
  have c1 : w3.cell? ⟨w.heap.size + 1, 1, none⟩ = some (.slice vA s.vars.length vC) := (blk_cell ho 1).trans rfl
  have c2 : w3.cell? ⟨w.heap.size + 1, 2, none⟩ = some (.slice sA s.stack.length sC) := (blk_cell ho 2).trans rfl
  have c3 : w3.cell? ⟨w.heap.size + 1, 3, none⟩ = some (.slice pA s.pts.length pC) := (blk_cell ho 3).trans rfl
  have c4 : w3.cell? ⟨w.heap.size + 1, 4, none⟩ = some (.slice nA s.notes.length nC) := (blk_cell ho 4).trans rfl
  have c5 : w3.cell? ⟨w.heap.size + 1, 5, none⟩ = some (.int .i64 s.fin) := (blk_cell ho 5).trans rfl
  have c6 : w3.cell? ⟨w.heap.size + 1, 6, none⟩ = some (.int .i64 s.steps) := (blk_cell ho 6).trans rfl
  have c7 : w3.cell? ⟨w.heap.size + 1, 7, none⟩ = some (.int .i64 s.br) := (blk_cell ho 7).trans rfl
  have c8 : w3.cell? ⟨w.heap.size + 1, 8, none⟩ = some (.bool false) := (blk_cell ho 8).trans rfl
  have c9 : w3.cell? ⟨w.heap.size + 1, 9, none⟩ = some (.int .i64 0) := (blk_cell ho 9).trans rfl
  have y0 : w3.cell? ⟨w.heap.size + 1 + 1, 0, none⟩ = some (.int .i64 0) := (blk_cell hz 0).trans rfl
  have y1 : w3.cell? ⟨w.heap.size + 1 + 1, 1, none⟩ = some (.slice none 0 0) := (blk_cell hz 1).trans rfl
  have y2 : w3.cell? ⟨w.heap.size + 1 + 1, 2, none⟩ = some (.slice none 0 0) := (blk_cell hz 2).trans rfl
  have y3 : w3.cell? ⟨w.heap.size + 1 + 1, 3, none⟩ = some (.slice none 0 0) := (blk_cell hz 3).trans rfl
  have y4 : w3.cell? ⟨w.heap.size + 1 + 1, 4, none⟩ = some (.slice none 0 0) := (blk_cell hz 4).trans rfl
  have y5 : w3.cell? ⟨w.heap.size + 1 + 1, 5, none⟩ = some (.int .i64 0) := (blk_cell hz 5).trans rfl
  have y6 : w3.cell? ⟨w.heap.size + 1 + 1, 6, none⟩ = some (.int .i64 0) := (blk_cell hz 6).trans rfl
  have y7 : w3.cell? ⟨w.heap.size + 1 + 1, 7, none⟩ = some (.int .i64 0) := (blk_cell hz 7).trans rfl
  have y8 : w3.cell? ⟨w.heap.size + 1 + 1, 8, none⟩ = some (.bool false) := (blk_cell hz 8).trans rfl
  have y9 : w3.cell? ⟨w.heap.size + 1 + 1, 9, none⟩ = some (.int .i64 0) := (blk_cell hz 9).trans rfl
  have k0 : w3.cell? ⟨w.heap.size, 0, none⟩ = some (.slice cA ins.length cC) := (blk_cell hc 0).trans rfl
  have k1 : w3.cell? ⟨w.heap.size, 1, none⟩ = some (.int .i64 V) := (blk_cell hc 1).trans rfl
  have k2 : w3.cell? ⟨w.heap.size, 2, none⟩ = some (.int .i64 P) := (blk_cell hc 2).trans rfl
  have fo := blk_frozen ho
  have fz := blk_frozen hz
  have HO := Lib.hid ho
  have HZ := Lib.hid hz
  have HCD := Lib.hid hc
  have HB := Lib.hid hB
  clear ho hz hc hB hs3
  obtain ⟨ad, hcA, hi0, hi1, hi2⟩ := at_T42 (Kd.C_below HR0.out HB.out) (n : Int) (by omega) (by omega)
  rw [Int.toNat_natCast] at hi0 hi1 hi2
  subst hcA
  have ei0 : w3.cell? (ad.add (n * 3)) = some (.int .i64 op) := hi0.trans (by rw [show (rd_T42 ins n).f0 = op from congrArg (·.1) hop])
  have ei1 : w3.cell? ⟨(ad.add (n * 3)).block, (ad.add (n * 3)).off + 1, none⟩ = some (.int .i64 a) := hi1.trans (by rw [show (rd_T42 ins n).f1 = a from congrArg (·.2.1) hop])
  have ei2 : w3.cell? ⟨(ad.add (n * 3)).block, (ad.add (n * 3)).off + 2, none⟩ = some (.int .i64 b) := hi2.trans (by rw [show (rd_T42 ins n).f2 = b from congrArg (·.2.2) hop])
  clear hi0 hi1 hi2 hop
  go_wp2_with fail
  refine (HPO.out _).mono ?_
  rintro e w' ⟨rfl, rfl⟩
  have HO4 := Lib.hid ((Below.heap_alloc w3 (.cells #[.int .i64 op, .int .i64 a, .int .i64 b] 42) _ (blk_lt HO.out)).trans HO.out)
  have HZ4 := Lib.hid ((Below.heap_alloc w3 (.cells #[.int .i64 op, .int .i64 a, .int .i64 b] 42) _ (blk_lt HZ.out)).trans HZ.out)
  have HC4 := Lib.hid ((Below.heap_alloc w3 (.cells #[.int .i64 op, .int .i64 a, .int .i64 b] 42) _ (blk_lt HCD.out)).trans HCD.out)
  have HI := Lib.hid (heap_alloc_new w3 (.cells #[.int .i64 op, .int .i64 a, .int .i64 b] 42))
  have HB4 := Lib.hid (HB.out.alloc HB.out.size (.cells #[.int .i64 op, .int .i64 a, .int .i64 b] 42))
  have hgo : w3.heap.size ≠ w.heap.size + 1 := fun e => absurd (blk_lt HO.out) (by omega)
  have hgz : w3.heap.size ≠ w.heap.size + 1 + 1 := fun e => absurd (blk_lt HZ.out) (by omega)
  have hgl : w.heap.size ≤ w3.heap.size := HB.out.size
  clear c0 y0 c1 y1 c2 y2 c3 y3 c4 y4 c5 y5 c6 y6 c7 y7 c8 y8 c9 y9 k0 k1 k2 fo fz ei0 ei1 ei2 HO HZ HCD HB
  have HO := HO4
  have HZ := HZ4
  have HCD := HC4
  have HB := HB4
  clear HO4 HZ4 HC4 HB4
  generalize w3.heap.size = gi at HI hgo hgz hgl ⊢
  generalize w3.alloc (.cells #[.int .i64 op, .int .i64 a, .int .i64 b] 42) = w4 at HO HZ HCD HB HI ⊢
  have c0 : w4.cell? ⟨w.heap.size + 1, 0, none⟩ = some (.int .i64 (n : Nat)) := (blk_cell HO.out 0).trans rfl
  have c1 : w4.cell? ⟨w.heap.size + 1, 1, none⟩ = some (.slice vA s.vars.length vC) := (blk_cell HO.out 1).trans rfl
  have c2 : w4.cell? ⟨w.heap.size + 1, 2, none⟩ = some (.slice sA s.stack.length sC) := (blk_cell HO.out 2).trans rfl
  have c3 : w4.cell? ⟨w.heap.size + 1, 3, none⟩ = some (.slice pA s.pts.length pC) := (blk_cell HO.out 3).trans rfl
  have c4 : w4.cell? ⟨w.heap.size + 1, 4, none⟩ = some (.slice nA s.notes.length nC) := (blk_cell HO.out 4).trans rfl
  have c5 : w4.cell? ⟨w.heap.size + 1, 5, none⟩ = some (.int .i64 s.fin) := (blk_cell HO.out 5).trans rfl
  have c6 : w4.cell? ⟨w.heap.size + 1, 6, none⟩ = some (.int .i64 s.steps) := (blk_cell HO.out 6).trans rfl
  have c7 : w4.cell? ⟨w.heap.size + 1, 7, none⟩ = some (.int .i64 s.br) := (blk_cell HO.out 7).trans rfl
  have c8 : w4.cell? ⟨w.heap.size + 1, 8, none⟩ = some (.bool false) := (blk_cell HO.out 8).trans rfl
  have c9 : w4.cell? ⟨w.heap.size + 1, 9, none⟩ = some (.int .i64 0) := (blk_cell HO.out 9).trans rfl
  have y0 : w4.cell? ⟨w.heap.size + 1 + 1, 0, none⟩ = some (.int .i64 0) := (blk_cell HZ.out 0).trans rfl
  have y1 : w4.cell? ⟨w.heap.size + 1 + 1, 1, none⟩ = some (.slice none 0 0) := (blk_cell HZ.out 1).trans rfl
  have y2 : w4.cell? ⟨w.heap.size + 1 + 1, 2, none⟩ = some (.slice none 0 0) := (blk_cell HZ.out 2).trans rfl
  have y3 : w4.cell? ⟨w.heap.size + 1 + 1, 3, none⟩ = some (.slice none 0 0) := (blk_cell HZ.out 3).trans rfl
  have y4 : w4.cell? ⟨w.heap.size + 1 + 1, 4, none⟩ = some (.slice none 0 0) := (blk_cell HZ.out 4).trans rfl
  have y5 : w4.cell? ⟨w.heap.size + 1 + 1, 5, none⟩ = some (.int .i64 0) := (blk_cell HZ.out 5).trans rfl
  have y6 : w4.cell? ⟨w.heap.size + 1 + 1, 6, none⟩ = some (.int .i64 0) := (blk_cell HZ.out 6).trans rfl
  have y7 : w4.cell? ⟨w.heap.size + 1 + 1, 7, none⟩ = some (.int .i64 0) := (blk_cell HZ.out 7).trans rfl
  have y8 : w4.cell? ⟨w.heap.size + 1 + 1, 8, none⟩ = some (.bool false) := (blk_cell HZ.out 8).trans rfl
  have y9 : w4.cell? ⟨w.heap.size + 1 + 1, 9, none⟩ = some (.int .i64 0) := (blk_cell HZ.out 9).trans rfl
  have k0 : w4.cell? ⟨w.heap.size, 0, none⟩ = some (.slice (some ad) ins.length cC) := (blk_cell HCD.out 0).trans rfl
  have k1 : w4.cell? ⟨w.heap.size, 1, none⟩ = some (.int .i64 V) := (blk_cell HCD.out 1).trans rfl
  have k2 : w4.cell? ⟨w.heap.size, 2, none⟩ = some (.int .i64 P) := (blk_cell HCD.out 2).trans rfl
  have i0 : w4.cell? ⟨gi, 0, none⟩ = some (.int .i64 op) := (blk_cell HI.out 0).trans rfl
  have i1 : w4.cell? ⟨gi, 1, none⟩ = some (.int .i64 a) := (blk_cell HI.out 1).trans rfl
  have i2 : w4.cell? ⟨gi, 2, none⟩ = some (.int .i64 b) := (blk_cell HI.out 2).trans rfl
  have fo := blk_frozen HO.out
  have fz := blk_frozen HZ.out
  go_wp2_with fail
  exact err_end { s with pc := n } vA sA pA nA vC sC pC nC HV.out HS.out HP.out HN.out HZ.out HB.out 21 (by decide) _ rfl
set_option maxRecDepth 100000 in
set_option maxHeartbeats 4000000 in
theorem rstep_bad_var17lo {w : World} (cA : Option Addr) (cC : Nat) (ins : List S42) (V P : Int) (s : St) (vA sA pA nA : Option Addr) (vC sC pC nC : Nat) (gA : Option Addr) (gC : Nat) (gl : List Int) (hr0 : Kd.C k42 w cA ins.length ins) (hv : RD w (.slice vA s.vars.length vC) s.vars) (hs : RD w (.slice sA s.stack.length sC) s.stack) (hp : RD w (.slice pA s.pts.length pC) s.pts) (hn : RD w (.slice nA s.notes.length nC) s.notes) (h3 : s.steps < 3000) (n : Nat) (hnL : n < ins.length) (op a b : Int) (hop : (insF ins n) = (op, a, b)) (np : Nat) (hpops : ∀ w, Calls Tryd.prog 23 #[.int .i64 op] w fun e w' => e = .returned (.int .i64 (np : Nat)) ∧ w = w') (hk : op = 17) (hst : np ≤ s.stack.length) (ha : a < 0) :
    Calls Tryd.prog 19 #[.agg #[.slice cA ins.length cC, .int .i64 V, .int .i64 P], .agg (stC (n : Nat) (.slice vA s.vars.length vC) (.slice sA s.stack.length sC) (.slice pA s.pts.length pC) (.slice nA s.notes.length nC) s.fin s.steps s.br false 0), .slice gA gl.length gC] w (RLeft w (.error 21)) := by
  have hd : decide (3000 ≤ s.steps) = false := decide_eq_false (by omega)
  have hd1 : decide ((n : Int) < 0) = false := decide_eq_false (by omega)
  have hd2 : decide (ins.length ≤ n) = false := decide_eq_false (by omega)
  have hn0 : decide ((np : Int) < 0) = false := decide_eq_false (by omega)
  have e2 : (op == 2) = false := by simp; omega
  have e3 : (op == 3) = false := by simp; omega
  have e12 : (op == 12) = false := by simp; omega
  have e17 : (op == 17) = true := by simp; omega
  have hn1 : decide (s.stack.length < np) = false := decide_eq_false (by omega)
  have ha0 : decide (a < 0) = true := decide_eq_true ha
  have HPO := Lib.hid hpops
  clear hk hst hpops ha
  have HV := Lib.hid hv
  have HS := Lib.hid hs
  have HP := Lib.hid hp
  have HN := Lib.hid hn
  have HR0 := Lib.hid hr0
  have HPRE := Lib.hid (pre_world w (.cells #[.slice cA ins.length cC, .int .i64 V, .int .i64 P] 24) (.cells #[.int .i64 (n : Nat), .slice vA s.vars.length vC, .slice sA s.stack.length sC, .slice pA s.pts.length pC, .slice nA s.notes.length nC, .int .i64 s.fin, .int .i64 s.steps, .int .i64 s.br, .bool false, .int .i64 0] 55) (.cells #[.int .i64 0, .slice none 0 0, .slice none 0 0, .slice none 0 0, .slice none 0 0, .int .i64 0, .int .i64 0, .int .i64 0, .bool false, .int .i64 0] 55))
  clear hv hs hp hn hr0
  go_enter Tryd.func19, Tryd.ntmps19
  go_upto_region 1 with fail
  obtain ⟨ho, hz, hc, hs3, hB⟩ := HPRE.out
  generalize hw3 : ((w.alloc (.cells #[.slice cA ins.length cC, .int .i64 V, .int .i64 P] 24)).alloc (.cells #[.int .i64 (n : Nat), .slice vA s.vars.length vC, .slice sA s.stack.length sC, .slice pA s.pts.length pC, .slice nA s.notes.length nC, .int .i64 s.fin, .int .i64 s.steps, .int .i64 s.br, .bool false, .int .i64 0] 55)).alloc (.cells #[.int .i64 0, .slice none 0 0, .slice none 0 0, .slice none 0 0, .slice none 0 0, .int .i64 0, .int .i64 0, .int .i64 0, .bool false, .int .i64 0] 55) = w3 at ho hz hc hs3 hB ⊢
  clear hw3 HPRE
  have c0 : w3.cell? ⟨w.heap.size + 1, 0, none⟩ = some (.int .i64 (n : Nat)) := (blk_cell ho 0).trans rfl
  have c1 : w3.cell? ⟨w.heap.size + 1, 1, none⟩ = some (.slice vA s.vars.length vC) := (blk_cell ho 1).trans rfl
  have c2 : w3.cell? ⟨w.heap.size + 1, 2, none⟩ = some (.slice sA s.stack.length sC) := (blk_cell ho 2).trans rfl
  have c3 : w3.cell? ⟨w.heap.size + 1, 3, none⟩ = some (.slice pA s.pts.length pC) := (blk_cell ho 3).trans rfl
  have c4 : w3.cell? ⟨w.heap.size + 1, 4, none⟩ = some (.slice nA s.notes.length nC) := (blk_cell ho 4).trans rfl
  have c5 : w3.cell? ⟨w.heap.size + 1, 5, none⟩ = some (.int .i64 s.fin) := (blk_cell ho 5).trans rfl
  have c6 : w3.cell? ⟨w.heap.size + 1, 6, none⟩ = some (.int .i64 s.steps) := (blk_cell ho 6).trans rfl
  have c7 : w3.cell? ⟨w.heap.size + 1, 7, none⟩ = some (.int .i64 s.br) := (blk_cell ho 7).trans rfl
  have c8 : w3.cell? ⟨w.heap.size + 1, 8, none⟩ = some (.bool false) := (blk_cell ho 8).trans rfl
  have c9 : w3.cell? ⟨w.heap.size + 1, 9, none⟩ = some (.int .i64 0) := (blk_cell ho 9).trans rfl
  have y0 : w3.cell? ⟨w.heap.size + 1 + 1, 0, none⟩ = some (.int .i64 0) := (blk_cell hz 0).trans rfl
  have y1 : w3.cell? ⟨w.heap.size + 1 + 1, 1, none⟩ = some (.slice none 0 0) := (blk_cell hz 1).trans rfl
  have y2 : w3.cell? ⟨w.heap.size + 1 + 1, 2, none⟩ = some (.slice none 0 0) := (blk_cell hz 2).trans rfl
  have y3 : w3.cell? ⟨w.heap.size + 1 + 1, 3, none⟩ = some (.slice none 0 0) := (blk_cell hz 3).trans rfl
  have y4 : w3.cell? ⟨w.heap.size + 1 + 1, 4, none⟩ = some (.slice none 0 0) := (blk_cell hz 4).trans rfl
  have y5 : w3.cell? ⟨w.heap.size + 1 + 1, 5, none⟩ = some (.int .i64 0) := (blk_cell hz 5).trans rfl
  have y6 : w3.cell? ⟨w.heap.size + 1 + 1, 6, none⟩ = some (.int .i64 0) := (blk_cell hz 6).trans rfl
  have y7 : w3.cell? ⟨w.heap.size + 1 + 1, 7, none⟩ = some (.int .i64 0) := (blk_cell hz 7).trans rfl
  have y8 : w3.cell? ⟨w.heap.size + 1 + 1, 8, none⟩ = some (.bool false) := (blk_cell hz 8).trans rfl
  have y9 : w3.cell? ⟨w.heap.size + 1 + 1, 9, none⟩ = some (.int .i64 0) := (blk_cell hz 9).trans rfl
  have k0 : w3.cell? ⟨w.heap.size, 0, none⟩ = some (.slice cA ins.length cC) := (blk_cell hc 0).trans rfl
  have k1 : w3.cell? ⟨w.heap.size, 1, none⟩ = some (.int .i64 V) := (blk_cell hc 1).trans rfl
  have k2 : w3.cell? ⟨w.heap.size, 2, none⟩ = some (.int .i64 P) := (blk_cell hc 2).trans rfl
  have fo := blk_frozen ho
  have fz := blk_frozen hz
  have HO := Lib.hid ho
  have HZ := Lib.hid hz
  have HCD := Lib.hid hc
  have HB := Lib.hid hB
  clear ho hz hc hB hs3
  obtain ⟨ad, hcA, hi0, hi1, hi2⟩ := at_T42 (Kd.C_below HR0.out HB.out) (n : Int) (by omega) (by omega)
  rw [Int.toNat_natCast] at hi0 hi1 hi2
  subst hcA
  have ei0 : w3.cell? (ad.add (n * 3)) = some (.int .i64 op) := hi0.trans (by rw [show (rd_T42 ins n).f0 = op from congrArg (·.1) hop])
  have ei1 : w3.cell? ⟨(ad.add (n * 3)).block, (ad.add (n * 3)).off + 1, none⟩ = some (.int .i64 a) := hi1.trans (by rw [show (rd_T42 ins n).f1 = a from congrArg (·.2.1) hop])
  have ei2 : w3.cell? ⟨(ad.add (n * 3)).block, (ad.add (n * 3)).off + 2, none⟩ = some (.int .i64 b) := hi2.trans (by rw [show (rd_T42 ins n).f2 = b from congrArg (·.2.2) hop])
  clear hi0 hi1 hi2 hop
  go_wp2_with fail
  refine (HPO.out _).mono ?_
  rintro e w' ⟨rfl, rfl⟩
  have HO4 := Lib.hid ((Below.heap_alloc w3 (.cells #[.int .i64 op, .int .i64 a, .int .i64 b] 42) _ (blk_lt HO.out)).trans HO.out)
  have HZ4 := Lib.hid ((Below.heap_alloc w3 (.cells #[.int .i64 op, .int .i64 a, .int .i64 b] 42) _ (blk_lt HZ.out)).trans HZ.out)
  have HC4 := Lib.hid ((Below.heap_alloc w3 (.cells #[.int .i64 op, .int .i64 a, .int .i64 b] 42) _ (blk_lt HCD.out)).trans HCD.out)
  have HI := Lib.hid (heap_alloc_new w3 (.cells #[.int .i64 op, .int .i64 a, .int .i64 b] 42))
  have HB4 := Lib.hid (HB.out.alloc HB.out.size (.cells #[.int .i64 op, .int .i64 a, .int .i64 b] 42))
  have hgo : w3.heap.size ≠ w.heap.size + 1 := fun e => absurd (blk_lt HO.out) (by omega)
  have hgz : w3.heap.size ≠ w.heap.size + 1 + 1 := fun e => absurd (blk_lt HZ.out) (by omega)
  have hgl : w.heap.size ≤ w3.heap.size := HB.out.size
  clear c0 y0 c1 y1 c2 y2 c3 y3 c4 y4 c5 y5 c6 y6 c7 y7 c8 y8 c9 y9 k0 k1 k2 fo fz ei0 ei1 ei2 HO HZ HCD HB
  have HO := HO4
  have HZ := HZ4
  have HCD := HC4
  have HB := HB4
  clear HO4 HZ4 HC4 HB4
  generalize w3.heap.size = gi at HI hgo hgz hgl ⊢
  generalize w3.alloc (.cells #[.int .i64 op, .int .i64 a, .int .i64 b] 42) = w4 at HO HZ HCD HB HI ⊢
  have c0 : w4.cell? ⟨w.heap.size + 1, 0, none⟩ = some (.int .i64 (n : Nat)) := (blk_cell HO.out 0).trans rfl
  have c1 : w4.cell? ⟨w.heap.size + 1, 1, none⟩ = some (.slice vA s.vars.length vC) := (blk_cell HO.out 1).trans rfl
  have c2 : w4.cell? ⟨w.heap.size + 1, 2, none⟩ = some (.slice sA s.stack.length sC) := (blk_cell HO.out 2).trans rfl
  have c3 : w4.cell? ⟨w.heap.size + 1, 3, none⟩ = some (.slice pA s.pts.length pC) := (blk_cell HO.out 3).trans rfl
  have c4 : w4.cell? ⟨w.heap.size + 1, 4, none⟩ = some (.slice nA s.notes.length nC) := (blk_cell HO.out 4).trans rfl
  have c5 : w4.cell? ⟨w.heap.size + 1, 5, none⟩ = some (.int .i64 s.fin) := (blk_cell HO.out 5).trans rfl
  have c6 : w4.cell? ⟨w.heap.size + 1, 6, none⟩ = some (.int .i64 s.steps) := (blk_cell HO.out 6).trans rfl
  have c7 : w4.cell? ⟨w.heap.size + 1, 7, none⟩ = some (.int .i64 s.br) := (blk_cell HO.out 7).trans rfl
  have c8 : w4.cell? ⟨w.heap.size + 1, 8, none⟩ = some (.bool false) := (blk_cell HO.out 8).trans rfl
  have c9 : w4.cell? ⟨w.heap.size + 1, 9, none⟩ = some (.int .i64 0) := (blk_cell HO.out 9).trans rfl
  have y0 : w4.cell? ⟨w.heap.size + 1 + 1, 0, none⟩ = some (.int .i64 0) := (blk_cell HZ.out 0).trans rfl
  have y1 : w4.cell? ⟨w.heap.size + 1 + 1, 1, none⟩ = some (.slice none 0 0) := (blk_cell HZ.out 1).trans rfl
  have y2 : w4.cell? ⟨w.heap.size + 1 + 1, 2, none⟩ = some (.slice none 0 0) := (blk_cell HZ.out 2).trans rfl
  have y3 : w4.cell? ⟨w.heap.size + 1 + 1, 3, none⟩ = some (.slice none 0 0) := (blk_cell HZ.out 3).trans rfl
  have y4 : w4.cell? ⟨w.heap.size + 1 + 1, 4, none⟩ = some (.slice none 0 0) := (blk_cell HZ.out 4).trans rfl
  have y5 : w4.cell? ⟨w.heap.size + 1 + 1, 5, none⟩ = some (.int .i64 0) := (blk_cell HZ.out 5).trans rfl
  have y6 : w4.cell? ⟨w.heap.size + 1 + 1, 6, none⟩ = some (.int .i64 0) := (blk_cell HZ.out 6).trans rfl
  have y7 : w4.cell? ⟨w.heap.size + 1 + 1, 7, none⟩ = some (.int .i64 0) := (blk_cell HZ.out 7).trans rfl
  have y8 : w4.cell? ⟨w.heap.size + 1 + 1, 8, none⟩ = some (.bool false) := (blk_cell HZ.out 8).trans rfl
  have y9 : w4.cell? ⟨w.heap.size + 1 + 1, 9, none⟩ = some (.int .i64 0) := (blk_cell HZ.out 9).trans rfl
  have k0 : w4.cell? ⟨w.heap.size, 0, none⟩ = some (.slice (some ad) ins.length cC) := (blk_cell HCD.out 0).trans rfl
  have k1 : w4.cell? ⟨w.heap.size, 1, none⟩ = some (.int .i64 V) := (blk_cell HCD.out 1).trans rfl
  have k2 : w4.cell? ⟨w.heap.size, 2, none⟩ = some (.int .i64 P) := (blk_cell HCD.out 2).trans rfl
  have i0 : w4.cell? ⟨gi, 0, none⟩ = some (.int .i64 op) := (blk_cell HI.out 0).trans rfl
  have i1 : w4.cell? ⟨gi, 1, none⟩ = some (.int .i64 a) := (blk_cell HI.out 1).trans rfl
  have i2 : w4.cell? ⟨gi, 2, none⟩ = some (.int .i64 b) := (blk_cell HI.out 2).trans rfl
  have fo := blk_frozen HO.out
  have fz := blk_frozen HZ.out
  go_wp2_with fail
  exact err_end { s with pc := n } vA sA pA nA vC sC pC nC HV.out HS.out HP.out HN.out HZ.out HB.out 21 (by decide) _ rfl
set_option maxRecDepth 100000 in
set_option maxHeartbeats 4000000 in
theorem rstep_bad_var17hi {w : World} (cA : Option Addr) (cC : Nat) (ins : List S42) (V P : Int) (s : St) (vA sA pA nA : Option Addr) (vC sC pC nC : Nat) (gA : Option Addr) (gC : Nat) (gl : List Int) (hr0 : Kd.C k42 w cA ins.length ins) (hv : RD w (.slice vA s.vars.length vC) s.vars) (hs : RD w (.slice sA s.stack.length sC) s.stack) (hp : RD w (.slice pA s.pts.length pC) s.pts) (hn : RD w (.slice nA s.notes.length nC) s.notes) (h3 : s.steps < 3000) (n : Nat) (hnL : n < ins.length) (op a b : Int) (hop : (insF ins n) = (op, a, b)) (np : Nat) (hpops : ∀ w, Calls Tryd.prog 23 #[.int .i64 op] w fun e w' => e = .returned (.int .i64 (np : Nat)) ∧ w = w') (hk : op = 17) (hst : np ≤ s.stack.length) (ha : (s.vars.length : Int) ≤ a) :
    Calls Tryd.prog 19 #[.agg #[.slice cA ins.length cC, .int .i64 V, .int .i64 P], .agg (stC (n : Nat) (.slice vA s.vars.length vC) (.slice sA s.stack.length sC) (.slice pA s.pts.length pC) (.slice nA s.notes.length nC) s.fin s.steps s.br false 0), .slice gA gl.length gC] w (RLeft w (.error 21)) := by
  have hd : decide (3000 ≤ s.steps) = false := decide_eq_false (by omega)
  have hd1 : decide ((n : Int) < 0) = false := decide_eq_false (by omega)
  have hd2 : decide (ins.length ≤ n) = false := decide_eq_false (by omega)
  have hn0 : decide ((np : Int) < 0) = false := decide_eq_false (by omega)
  have e2 : (op == 2) = false := by simp; omega
  have e3 : (op == 3) = false := by simp; omega
  have e12 : (op == 12) = false := by simp; omega
  have e17 : (op == 17) = true := by simp; omega
  have hn1 : decide (s.stack.length < np) = false := decide_eq_false (by omega)
  have ha0 : decide (a < 0) = false := decide_eq_false (by omega)
  have ha1 : decide ((s.vars.length : Int) ≤ a) = true := decide_eq_true ha
  have HPO := Lib.hid hpops
  clear hk hst hpops ha
  have HV := Lib.hid hv
  have HS := Lib.hid hs
  have HP := Lib.hid hp
  have HN := Lib.hid hn
  have HR0 := Lib.hid hr0
  have HPRE := Lib.hid (pre_world w (.cells #[.slice cA ins.length cC, .int .i64 V, .int .i64 P] 24) (.cells #[.int .i64 (n : Nat), .slice vA s.vars.length vC, .slice sA s.stack.length sC, .slice pA s.pts.length pC, .slice nA s.notes.length nC, .int .i64 s.fin, .int .i64 s.steps, .int .i64 s.br, .bool false, .int .i64 0] 55) (.cells #[.int .i64 0, .slice none 0 0, .slice none 0 0, .slice none 0 0, .slice none 0 0, .int .i64 0, .int .i64 0, .int .i64 0, .bool false, .int .i64 0] 55))
  clear hv hs hp hn hr0
  go_enter Tryd.func19, Tryd.ntmps19
  go_upto_region 1 with fail
  obtain ⟨ho, hz, hc, hs3, hB⟩ := HPRE.out
  generalize hw3 : ((w.alloc (.cells #[.slice cA ins.length cC, .int .i64 V, .int .i64 P] 24)).alloc (.cells #[.int .i64 (n : Nat), .slice vA s.vars.length vC, .slice sA s.stack.length sC, .slice pA s.pts.length pC, .slice nA s.notes.length nC, .int .i64 s.fin, .int .i64 s.steps, .int .i64 s.br, .bool false, .int .i64 0] 55)).alloc (.cells #[.int .i64 0, .slice none 0 0, .slice none 0 0, .slice none 0 0, .slice none 0 0, .int .i64 0, .int .i64 0, .int .i64 0, .bool false, .int .i64 0] 55) = w3 at ho hz hc hs3 hB ⊢
  clear hw3 HPRE
  have c0 : w3.cell? ⟨w.heap.size + 1, 0, none⟩ = some (.int .i64 (n : Nat)) := (blk_cell ho 0).trans rfl
  have c1 : w3.cell? ⟨w.heap.size + 1, 1, none⟩ = some (.slice vA s.vars.length vC) := (blk_cell ho 1).trans rfl
  have c2 : w3.cell? ⟨w.heap.size + 1, 2, none⟩ = some (.slice sA s.stack.length sC) := (blk_cell ho 2).trans rfl
  have c3 : w3.cell? ⟨w.heap.size + 1, 3, none⟩ = some (.slice pA s.pts.length pC) := (blk_cell ho 3).trans rfl
  have c4 : w3.cell? ⟨w.heap.size + 1, 4, none⟩ = some (.slice nA s.notes.length nC) := (blk_cell ho 4).trans rfl
  have c5 : w3.cell? ⟨w.heap.size + 1, 5, none⟩ = some (.int .i64 s.fin) := (blk_cell ho 5).trans rfl
  have c6 : w3.cell? ⟨w.heap.size + 1, 6, none⟩ = some (.int .i64 s.steps) := (blk_cell ho 6).trans rfl
  have c7 : w3.cell? ⟨w.heap.size + 1, 7, none⟩ = some (.int .i64 s.br) := (blk_cell ho 7).trans rfl
  have c8 : w3.cell? ⟨w.heap.size + 1, 8, none⟩ = some (.bool false) := (blk_cell ho 8).trans rfl
  have c9 : w3.cell? ⟨w.heap.size + 1, 9, none⟩ = some (.int .i64 0) := (blk_cell ho 9).trans rfl
  have y0 : w3.cell? ⟨w.heap.size + 1 + 1, 0, none⟩ = some (.int .i64 0) := (blk_cell hz 0).trans rfl
  have y1 : w3.cell? ⟨w.heap.size + 1 + 1, 1, none⟩ = some (.slice none 0 0) := (blk_cell hz 1).trans rfl
  have y2 : w3.cell? ⟨w.heap.size + 1 + 1, 2, none⟩ = some (.slice none 0 0) := (blk_cell hz 2).trans rfl
  have y3 : w3.cell? ⟨w.heap.size + 1 + 1, 3, none⟩ = some (.slice none 0 0) := (blk_cell hz 3).trans rfl
  have y4 : w3.cell? ⟨w.heap.size + 1 + 1, 4, none⟩ = some (.slice none 0 0) := (blk_cell hz 4).trans rfl
  have y5 : w3.cell? ⟨w.heap.size + 1 + 1, 5, none⟩ = some (.int .i64 0) := (blk_cell hz 5).trans rfl
  have y6 : w3.cell? ⟨w.heap.size + 1 + 1, 6, none⟩ = some (.int .i64 0) := (blk_cell hz 6).trans rfl
  have y7 : w3.cell? ⟨w.heap.size + 1 + 1, 7, none⟩ = some (.int .i64 0) := (blk_cell hz 7).trans rfl
  have y8 : w3.cell? ⟨w.heap.size + 1 + 1, 8, none⟩ = some (.bool false) := (blk_cell hz 8).trans rfl
  have y9 : w3.cell? ⟨w.heap.size + 1 + 1, 9, none⟩ = some (.int .i64 0) := (blk_cell hz 9).trans rfl
  have k0 : w3.cell? ⟨w.heap.size, 0, none⟩ = some (.slice cA ins.length cC) := (blk_cell hc 0).trans rfl
  have k1 : w3.cell? ⟨w.heap.size, 1, none⟩ = some (.int .i64 V) := (blk_cell hc 1).trans rfl
  have k2 : w3.cell? ⟨w.heap.size, 2, none⟩ = some (.int .i64 P) := (blk_cell hc 2).trans rfl
  have fo := blk_frozen ho
  have fz := blk_frozen hz
  have HO := Lib.hid ho
  have HZ := Lib.hid hz
  have HCD := Lib.hid hc
  have HB := Lib.hid hB
  clear ho hz hc hB hs3
  obtain ⟨ad, hcA, hi0, hi1, hi2⟩ := at_T42 (Kd.C_below HR0.out HB.out) (n : Int) (by omega) (by omega)
  rw [Int.toNat_natCast] at hi0 hi1 hi2
  subst hcA
  have ei0 : w3.cell? (ad.add (n * 3)) = some (.int .i64 op) := hi0.trans (by rw [show (rd_T42 ins n).f0 = op from congrArg (·.1) hop])
  have ei1 : w3.cell? ⟨(ad.add (n * 3)).block, (ad.add (n * 3)).off + 1, none⟩ = some (.int .i64 a) := hi1.trans (by rw [show (rd_T42 ins n).f1 = a from congrArg (·.2.1) hop])
  have ei2 : w3.cell? ⟨(ad.add (n * 3)).block, (ad.add (n * 3)).off + 2, none⟩ = some (.int .i64 b) := hi2.trans (by rw [show (rd_T42 ins n).f2 = b from congrArg (·.2.2) hop])
  clear hi0 hi1 hi2 hop
  go_wp2_with fail
  refine (HPO.out _).mono ?_
  rintro e w' ⟨rfl, rfl⟩
  have HO4 := Lib.hid ((Below.heap_alloc w3 (.cells #[.int .i64 op, .int .i64 a, .int .i64 b] 42) _ (blk_lt HO.out)).trans HO.out)
  have HZ4 := Lib.hid ((Below.heap_alloc w3 (.cells #[.int .i64 op, .int .i64 a, .int .i64 b] 42) _ (blk_lt HZ.out)).trans HZ.out)
  have HC4 := Lib.hid ((Below.heap_alloc w3 (.cells #[.int .i64 op, .int .i64 a, .int .i64 b] 42) _ (blk_lt HCD.out)).trans HCD.out)
  have HI := Lib.hid (heap_alloc_new w3 (.cells #[.int .i64 op, .int .i64 a, .int .i64 b] 42))
  have HB4 := Lib.hid (HB.out.alloc HB.out.size (.cells #[.int .i64 op, .int .i64 a, .int .i64 b] 42))
  have hgo : w3.heap.size ≠ w.heap.size + 1 := fun e => absurd (blk_lt HO.out) (by omega)
  have hgz : w3.heap.size ≠ w.heap.size + 1 + 1 := fun e => absurd (blk_lt HZ.out) (by omega)
  have hgl : w.heap.size ≤ w3.heap.size := HB.out.size
  clear c0 y0 c1 y1 c2 y2 c3 y3 c4 y4 c5 y5 c6 y6 c7 y7 c8 y8 c9 y9 k0 k1 k2 fo fz ei0 ei1 ei2 HO HZ HCD HB
  have HO := HO4
  have HZ := HZ4
  have HCD := HC4
  have HB := HB4
  clear HO4 HZ4 HC4 HB4
  generalize w3.heap.size = gi at HI hgo hgz hgl ⊢
  generalize w3.alloc (.cells #[.int .i64 op, .int .i64 a, .int .i64 b] 42) = w4 at HO HZ HCD HB HI ⊢
  have c0 : w4.cell? ⟨w.heap.size + 1, 0, none⟩ = some (.int .i64 (n : Nat)) := (blk_cell HO.out 0).trans rfl
  have c1 : w4.cell? ⟨w.heap.size + 1, 1, none⟩ = some (.slice vA s.vars.length vC) := (blk_cell HO.out 1).trans rfl
  have c2 : w4.cell? ⟨w.heap.size + 1, 2, none⟩ = some (.slice sA s.stack.length sC) := (blk_cell HO.out 2).trans rfl
  have c3 : w4.cell? ⟨w.heap.size + 1, 3, none⟩ = some (.slice pA s.pts.length pC) := (blk_cell HO.out 3).trans rfl
  have c4 : w4.cell? ⟨w.heap.size + 1, 4, none⟩ = some (.slice nA s.notes.length nC) := (blk_cell HO.out 4).trans rfl
  have c5 : w4.cell? ⟨w.heap.size + 1, 5, none⟩ = some (.int .i64 s.fin) := (blk_cell HO.out 5).trans rfl
  have c6 : w4.cell? ⟨w.heap.size + 1, 6, none⟩ = some (.int .i64 s.steps) := (blk_cell HO.out 6).trans rfl
  have c7 : w4.cell? ⟨w.heap.size + 1, 7, none⟩ = some (.int .i64 s.br) := (blk_cell HO.out 7).trans rfl
  have c8 : w4.cell? ⟨w.heap.size + 1, 8, none⟩ = some (.bool false) := (blk_cell HO.out 8).trans rfl
  have c9 : w4.cell? ⟨w.heap.size + 1, 9, none⟩ = some (.int .i64 0) := (blk_cell HO.out 9).trans rfl
  have y0 : w4.cell? ⟨w.heap.size + 1 + 1, 0, none⟩ = some (.int .i64 0) := (blk_cell HZ.out 0).trans rfl
  have y1 : w4.cell? ⟨w.heap.size + 1 + 1, 1, none⟩ = some (.slice none 0 0) := (blk_cell HZ.out 1).trans rfl
  have y2 : w4.cell? ⟨w.heap.size + 1 + 1, 2, none⟩ = some (.slice none 0 0) := (blk_cell HZ.out 2).trans rfl
  have y3 : w4.cell? ⟨w.heap.size + 1 + 1, 3, none⟩ = some (.slice none 0 0) := (blk_cell HZ.out 3).trans rfl
  have y4 : w4.cell? ⟨w.heap.size + 1 + 1, 4, none⟩ = some (.slice none 0 0) := (blk_cell HZ.out 4).trans rfl
  have y5 : w4.cell? ⟨w.heap.size + 1 + 1, 5, none⟩ = some (.int .i64 0) := (blk_cell HZ.out 5).trans rfl
  have y6 : w4.cell? ⟨w.heap.size + 1 + 1, 6, none⟩ = some (.int .i64 0) := (blk_cell HZ.out 6).trans rfl
  have y7 : w4.cell? ⟨w.heap.size + 1 + 1, 7, none⟩ = some (.int .i64 0) := (blk_cell HZ.out 7).trans rfl
  have y8 : w4.cell? ⟨w.heap.size + 1 + 1, 8, none⟩ = some (.bool false) := (blk_cell HZ.out 8).trans rfl
  have y9 : w4.cell? ⟨w.heap.size + 1 + 1, 9, none⟩ = some (.int .i64 0) := (blk_cell HZ.out 9).trans rfl
  have k0 : w4.cell? ⟨w.heap.size, 0, none⟩ = some (.slice (some ad) ins.length cC) := (blk_cell HCD.out 0).trans rfl
  have k1 : w4.cell? ⟨w.heap.size, 1, none⟩ = some (.int .i64 V) := (blk_cell HCD.out 1).trans rfl
  have k2 : w4.cell? ⟨w.heap.size, 2, none⟩ = some (.int .i64 P) := (blk_cell HCD.out 2).trans rfl
  have i0 : w4.cell? ⟨gi, 0, none⟩ = some (.int .i64 op) := (blk_cell HI.out 0).trans rfl
  have i1 : w4.cell? ⟨gi, 1, none⟩ = some (.int .i64 a) := (blk_cell HI.out 1).trans rfl
  have i2 : w4.cell? ⟨gi, 2, none⟩ = some (.int .i64 b) := (blk_cell HI.out 2).trans rfl
  have fo := blk_frozen HO.out
  have fz := blk_frozen HZ.out
  go_wp2_with fail
  exact err_end { s with pc := n } vA sA pA nA vC sC pC nC HV.out HS.out HP.out HN.out HZ.out HB.out 21 (by decide) _ rfl
set_option maxRecDepth 100000 in
set_option maxHeartbeats 4000000 in
theorem rstep_bad_ptlo {w : World} (cA : Option Addr) (cC : Nat) (ins : List S42) (V P : Int) (s : St) (vA sA pA nA : Option Addr) (vC sC pC nC : Nat) (gA : Option Addr) (gC : Nat) (gl : List Int) (hr0 : Kd.C k42 w cA ins.length ins) (hv : RD w (.slice vA s.vars.length vC) s.vars) (hs : RD w (.slice sA s.stack.length sC) s.stack) (hp : RD w (.slice pA s.pts.length pC) s.pts) (hn : RD w (.slice nA s.notes.length nC) s.notes) (h3 : s.steps < 3000) (n : Nat) (hnL : n < ins.length) (op a b : Int) (hop : (insF ins n) = (op, a, b)) (np : Nat) (hpops : ∀ w, Calls Tryd.prog 23 #[.int .i64 op] w fun e w' => e = .returned (.int .i64 (np : Nat)) ∧ w = w') (hk : op = 12) (hst : np ≤ s.stack.length) (hb : b < 0) :
    Calls Tryd.prog 19 #[.agg #[.slice cA ins.length cC, .int .i64 V, .int .i64 P], .agg (stC (n : Nat) (.slice vA s.vars.length vC) (.slice sA s.stack.length sC) (.slice pA s.pts.length pC) (.slice nA s.notes.length nC) s.fin s.steps s.br false 0), .slice gA gl.length gC] w (RLeft w (.error 21)) := by
  have hd : decide (3000 ≤ s.steps) = false := decide_eq_false (by omega)
  have hd1 : decide ((n : Int) < 0) = false := decide_eq_false (by omega)
  have hd2 : decide (ins.length ≤ n) = false := decide_eq_false (by omega)
  have hn0 : decide ((np : Int) < 0) = false := decide_eq_false (by omega)
  have e2 : (op == 2) = false := by simp; omega
  have e3 : (op == 3) = false := by simp; omega
  have e12 : (op == 12) = true := by simp; omega
  have e17 : (op == 17) = false := by simp; omega
  have hn1 : decide (s.stack.length < np) = false := decide_eq_false (by omega)
  have hb0 : decide (b < 0) = true := decide_eq_true hb
  have HPO := Lib.hid hpops
  clear hk hst hpops hb
  have HV := Lib.hid hv
  have HS := Lib.hid hs
  have HP := Lib.hid hp
  have HN := Lib.hid hn
  have HR0 := Lib.hid hr0
  have HPRE := Lib.hid (pre_world w (.cells #[.slice cA ins.length cC, .int .i64 V, .int .i64 P] 24) (.cells #[.int .i64 (n : Nat), .slice vA s.vars.length vC, .slice sA s.stack.length sC, .slice pA s.pts.length pC, .slice nA s.notes.length nC, .int .i64 s.fin, .int .i64 s.steps, .int .i64 s.br, .bool false, .int .i64 0] 55) (.cells #[.int .i64 0, .slice none 0 0, .slice none 0 0, .slice none 0 0, .slice none 0 0, .int .i64 0, .int .i64 0, .int .i64 0, .bool false, .int .i64 0] 55))
  clear hv hs hp hn hr0
  go_enter Tryd.func19, Tryd.ntmps19
  go_upto_region 1 with fail
  obtain ⟨ho, hz, hc, hs3, hB⟩ := HPRE.out
  generalize hw3 : ((w.alloc (.cells #[.slice cA ins.length cC, .int .i64 V, .int .i64 P] 24)).alloc (.cells #[.int .i64 (n : Nat), .slice vA s.vars.length vC, .slice sA s.stack.length sC, .slice pA s.pts.length pC, .slice nA s.notes.length nC, .int .i64 s.fin, .int .i64 s.steps, .int .i64 s.br, .bool false, .int .i64 0] 55)).alloc (.cells #[.int .i64 0, .slice none 0 0, .slice none 0 0, .slice none 0 0, .slice none 0 0, .int .i64 0, .int .i64 0, .int .i64 0, .bool false, .int .i64 0] 55) = w3 at ho hz hc hs3 hB ⊢
  clear hw3 HPRE
  have c0 : w3.cell? ⟨w.heap.size + 1, 0, none⟩ = some (.int .i64 (n : Nat)) := (blk_cell ho 0).trans rfl
  have c1 : w3.cell? ⟨w.heap.size + 1, 1, none⟩ = some (.slice vA s.vars.length vC) := (blk_cell ho 1).trans rfl
  have c2 : w3.cell? ⟨w.heap.size + 1, 2, none⟩ = some (.slice sA s.stack.length sC) := (blk_cell ho 2).trans rfl
  have c3 : w3.cell? ⟨w.heap.size + 1, 3, none⟩ = some (.slice pA s.pts.length pC) := (blk_cell ho 3).trans rfl
  have c4 : w3.cell? ⟨w.heap.size + 1, 4, none⟩ = some (.slice nA s.notes.length nC) := (blk_cell ho 4).trans rfl
  have c5 : w3.cell? ⟨w.heap.size + 1, 5, none⟩ = some (.int .i64 s.fin) := (blk_cell ho 5).trans rfl
  have c6 : w3.cell? ⟨w.heap.size + 1, 6, none⟩ = some (.int .i64 s.steps) := (blk_cell ho 6).trans rfl
  have c7 : w3.cell? ⟨w.heap.size + 1, 7, none⟩ = some (.int .i64 s.br) := (blk_cell ho 7).trans rfl
  have c8 : w3.cell? ⟨w.heap.size + 1, 8, none⟩ = some (.bool false) := (blk_cell ho 8).trans rfl
  have c9 : w3.cell? ⟨w.heap.size + 1, 9, none⟩ = some (.int .i64 0) := (blk_cell ho 9).trans rfl
  have y0 : w3.cell? ⟨w.heap.size + 1 + 1, 0, none⟩ = some (.int .i64 0) := (blk_cell hz 0).trans rfl
  have y1 : w3.cell? ⟨w.heap.size + 1 + 1, 1, none⟩ = some (.slice none 0 0) := (blk_cell hz 1).trans rfl
  have y2 : w3.cell? ⟨w.heap.size + 1 + 1, 2, none⟩ = some (.slice none 0 0) := (blk_cell hz 2).trans rfl
  have y3 : w3.cell? ⟨w.heap.size + 1 + 1, 3, none⟩ = some (.slice none 0 0) := (blk_cell hz 3).trans rfl
  have y4 : w3.cell? ⟨w.heap.size + 1 + 1, 4, none⟩ = some (.slice none 0 0) := (blk_cell hz 4).trans rfl
  have y5 : w3.cell? ⟨w.heap.size + 1 + 1, 5, none⟩ = some (.int .i64 0) := (blk_cell hz 5).trans rfl
  have y6 : w3.cell? ⟨w.heap.size + 1 + 1, 6, none⟩ = some (.int .i64 0) := (blk_cell hz 6).trans rfl
  have y7 : w3.cell? ⟨w.heap.size + 1 + 1, 7, none⟩ = some (.int .i64 0) := (blk_cell hz 7).trans rfl
  have y8 : w3.cell? ⟨w.heap.size + 1 + 1, 8, none⟩ = some (.bool false) := (blk_cell hz 8).trans rfl
  have y9 : w3.cell? ⟨w.heap.size + 1 + 1, 9, none⟩ = some (.int .i64 0) := (blk_cell hz 9).trans rfl
  have k0 : w3.cell? ⟨w.heap.size, 0, none⟩ = some (.slice cA ins.length cC) := (blk_cell hc 0).trans rfl
  have k1 : w3.cell? ⟨w.heap.size, 1, none⟩ = some (.int .i64 V) := (blk_cell hc 1).trans rfl
  have k2 : w3.cell? ⟨w.heap.size, 2, none⟩ = some (.int .i64 P) := (blk_cell hc 2).trans rfl
  have fo := blk_frozen ho
  have fz := blk_frozen hz
  have HO := Lib.hid ho
  have HZ := Lib.hid hz
  have HCD := Lib.hid hc
  have HB := Lib.hid hB
  clear ho hz hc hB hs3
  obtain ⟨ad, hcA, hi0, hi1, hi2⟩ := at_T42 (Kd.C_below HR0.out HB.out) (n : Int) (by omega) (by omega)
  rw [Int.toNat_natCast] at hi0 hi1 hi2
  subst hcA
  have ei0 : w3.cell? (ad.add (n * 3)) = some (.int .i64 op) := hi0.trans (by rw [show (rd_T42 ins n).f0 = op from congrArg (·.1) hop])
  have ei1 : w3.cell? ⟨(ad.add (n * 3)).block, (ad.add (n * 3)).off + 1, none⟩ = some (.int .i64 a) := hi1.trans (by rw [show (rd_T42 ins n).f1 = a from congrArg (·.2.1) hop])
  have ei2 : w3.cell? ⟨(ad.add (n * 3)).block, (ad.add (n * 3)).off + 2, none⟩ = some (.int .i64 b) := hi2.trans (by rw [show (rd_T42 ins n).f2 = b from congrArg (·.2.2) hop])
  clear hi0 hi1 hi2 hop
  go_wp2_with fail
  refine (HPO.out _).mono ?_
  rintro e w' ⟨rfl, rfl⟩
  have HO4 := Lib.hid ((Below.heap_alloc w3 (.cells #[.int .i64 op, .int .i64 a, .int .i64 b] 42) _ (blk_lt HO.out)).trans HO.out)
  have HZ4 := Lib.hid ((Below.heap_alloc w3 (.cells #[.int .i64 op, .int .i64 a, .int .i64 b] 42) _ (blk_lt HZ.out)).trans HZ.out)
  have HC4 := Lib.hid ((Below.heap_alloc w3 (.cells #[.int .i64 op, .int .i64 a, .int .i64 b] 42) _ (blk_lt HCD.out)).trans HCD.out)
  have HI := Lib.hid (heap_alloc_new w3 (.cells #[.int .i64 op, .int .i64 a, .int .i64 b] 42))
  have HB4 := Lib.hid (HB.out.alloc HB.out.size (.cells #[.int .i64 op, .int .i64 a, .int .i64 b] 42))
  have hgo : w3.heap.size ≠ w.heap.size + 1 := fun e => absurd (blk_lt HO.out) (by omega)
  have hgz : w3.heap.size ≠ w.heap.size + 1 + 1 := fun e => absurd (blk_lt HZ.out) (by omega)
  have hgl : w.heap.size ≤ w3.heap.size := HB.out.size
  clear c0 y0 c1 y1 c2 y2 c3 y3 c4 y4 c5 y5 c6 y6 c7 y7 c8 y8 c9 y9 k0 k1 k2 fo fz ei0 ei1 ei2 HO HZ HCD HB
  have HO := HO4
  have HZ := HZ4
  have HCD := HC4
  have HB := HB4
  clear HO4 HZ4 HC4 HB4
  generalize w3.heap.size = gi at HI hgo hgz hgl ⊢
  generalize w3.alloc (.cells #[.int .i64 op, .int .i64 a, .int .i64 b] 42) = w4 at HO HZ HCD HB HI ⊢
  have c0 : w4.cell? ⟨w.heap.size + 1, 0, none⟩ = some (.int .i64 (n : Nat)) := (blk_cell HO.out 0).trans rfl
  have c1 : w4.cell? ⟨w.heap.size + 1, 1, none⟩ = some (.slice vA s.vars.length vC) := (blk_cell HO.out 1).trans rfl
  have c2 : w4.cell? ⟨w.heap.size + 1, 2, none⟩ = some (.slice sA s.stack.length sC) := (blk_cell HO.out 2).trans rfl
  have c3 : w4.cell? ⟨w.heap.size + 1, 3, none⟩ = some (.slice pA s.pts.length pC) := (blk_cell HO.out 3).trans rfl
  have c4 : w4.cell? ⟨w.heap.size + 1, 4, none⟩ = some (.slice nA s.notes.length nC) := (blk_cell HO.out 4).trans rfl
  have c5 : w4.cell? ⟨w.heap.size + 1, 5, none⟩ = some (.int .i64 s.fin) := (blk_cell HO.out 5).trans rfl
  have c6 : w4.cell? ⟨w.heap.size + 1, 6, none⟩ = some (.int .i64 s.steps) := (blk_cell HO.out 6).trans rfl
  have c7 : w4.cell? ⟨w.heap.size + 1, 7, none⟩ = some (.int .i64 s.br) := (blk_cell HO.out 7).trans rfl
  have c8 : w4.cell? ⟨w.heap.size + 1, 8, none⟩ = some (.bool false) := (blk_cell HO.out 8).trans rfl
  have c9 : w4.cell? ⟨w.heap.size + 1, 9, none⟩ = some (.int .i64 0) := (blk_cell HO.out 9).trans rfl
  have y0 : w4.cell? ⟨w.heap.size + 1 + 1, 0, none⟩ = some (.int .i64 0) := (blk_cell HZ.out 0).trans rfl
  have y1 : w4.cell? ⟨w.heap.size + 1 + 1, 1, none⟩ = some (.slice none 0 0) := (blk_cell HZ.out 1).trans rfl
  have y2 : w4.cell? ⟨w.heap.size + 1 + 1, 2, none⟩ = some (.slice none 0 0) := (blk_cell HZ.out 2).trans rfl
  have y3 : w4.cell? ⟨w.heap.size + 1 + 1, 3, none⟩ = some (.slice none 0 0) := (blk_cell HZ.out 3).trans rfl
  have y4 : w4.cell? ⟨w.heap.size + 1 + 1, 4, none⟩ = some (.slice none 0 0) := (blk_cell HZ.out 4).trans rfl
  have y5 : w4.cell? ⟨w.heap.size + 1 + 1, 5, none⟩ = some (.int .i64 0) := (blk_cell HZ.out 5).trans rfl
  have y6 : w4.cell? ⟨w.heap.size + 1 + 1, 6, none⟩ = some (.int .i64 0) := (blk_cell HZ.out 6).trans rfl
  have y7 : w4.cell? ⟨w.heap.size + 1 + 1, 7, none⟩ = some (.int .i64 0) := (blk_cell HZ.out 7).trans rfl
  have y8 : w4.cell? ⟨w.heap.size + 1 + 1, 8, none⟩ = some (.bool false) := (blk_cell HZ.out 8).trans rfl
  have y9 : w4.cell? ⟨w.heap.size + 1 + 1, 9, none⟩ = some (.int .i64 0) := (blk_cell HZ.out 9).trans rfl
  have k0 : w4.cell? ⟨w.heap.size, 0, none⟩ = some (.slice (some ad) ins.length cC) := (blk_cell HCD.out 0).trans rfl
  have k1 : w4.cell? ⟨w.heap.size, 1, none⟩ = some (.int .i64 V) := (blk_cell HCD.out 1).trans rfl
  have k2 : w4.cell? ⟨w.heap.size, 2, none⟩ = some (.int .i64 P) := (blk_cell HCD.out 2).trans rfl
  have i0 : w4.cell? ⟨gi, 0, none⟩ = some (.int .i64 op) := (blk_cell HI.out 0).trans rfl
  have i1 : w4.cell? ⟨gi, 1, none⟩ = some (.int .i64 a) := (blk_cell HI.out 1).trans rfl
  have i2 : w4.cell? ⟨gi, 2, none⟩ = some (.int .i64 b) := (blk_cell HI.out 2).trans rfl
  have fo := blk_frozen HO.out
  have fz := blk_frozen HZ.out
  go_wp2_with fail
  exact err_end { s with pc := n } vA sA pA nA vC sC pC nC HV.out HS.out HP.out HN.out HZ.out HB.out 21 (by decide) _ rfl
set_option maxRecDepth 100000 in
set_option maxHeartbeats 4000000 in
theorem rstep_bad_pthi {w : World} (cA : Option Addr) (cC : Nat) (ins : List S42) (V P : Int) (s : St) (vA sA pA nA : Option Addr) (vC sC pC nC : Nat) (gA : Option Addr) (gC : Nat) (gl : List Int) (hr0 : Kd.C k42 w cA ins.length ins) (hv : RD w (.slice vA s.vars.length vC) s.vars) (hs : RD w (.slice sA s.stack.length sC) s.stack) (hp : RD w (.slice pA s.pts.length pC) s.pts) (hn : RD w (.slice nA s.notes.length nC) s.notes) (h3 : s.steps < 3000) (n : Nat) (hnL : n < ins.length) (op a b : Int) (hop : (insF ins n) = (op, a, b)) (np : Nat) (hpops : ∀ w, Calls Tryd.prog 23 #[.int .i64 op] w fun e w' => e = .returned (.int .i64 (np : Nat)) ∧ w = w') (hk : op = 12) (hst : np ≤ s.stack.length) (hb : P ≤ b) (hP : 0 ≤ P) :
    Calls Tryd.prog 19 #[.agg #[.slice cA ins.length cC, .int .i64 V, .int .i64 P], .agg (stC (n : Nat) (.slice vA s.vars.length vC) (.slice sA s.stack.length sC) (.slice pA s.pts.length pC) (.slice nA s.notes.length nC) s.fin s.steps s.br false 0), .slice gA gl.length gC] w (RLeft w (.error 21)) := by
  have hd : decide (3000 ≤ s.steps) = false := decide_eq_false (by omega)
  have hd1 : decide ((n : Int) < 0) = false := decide_eq_false (by omega)
  have hd2 : decide (ins.length ≤ n) = false := decide_eq_false (by omega)
  have hn0 : decide ((np : Int) < 0) = false := decide_eq_false (by omega)
  have e2 : (op == 2) = false := by simp; omega
  have e3 : (op == 3) = false := by simp; omega
  have e12 : (op == 12) = true := by simp; omega
  have e17 : (op == 17) = false := by simp; omega
  have hn1 : decide (s.stack.length < np) = false := decide_eq_false (by omega)
  have hb0 : decide (b < 0) = false := decide_eq_false (by omega)
  have hb1 : decide (P ≤ b) = true := decide_eq_true hb
  have HPO := Lib.hid hpops
  clear hk hst hpops hb
  have HV := Lib.hid hv
  have HS := Lib.hid hs
  have HP := Lib.hid hp
  have HN := Lib.hid hn
  have HR0 := Lib.hid hr0
  have HPRE := Lib.hid (pre_world w (.cells #[.slice cA ins.length cC, .int .i64 V, .int .i64 P] 24) (.cells #[.int .i64 (n : Nat), .slice vA s.vars.length vC, .slice sA s.stack.length sC, .slice pA s.pts.length pC, .slice nA s.notes.length nC, .int .i64 s.fin, .int .i64 s.steps, .int .i64 s.br, .bool false, .int .i64 0] 55) (.cells #[.int .i64 0, .slice none 0 0, .slice none 0 0, .slice none 0 0, .slice none 0 0, .int .i64 0, .int .i64 0, .int .i64 0, .bool false, .int .i64 0] 55))
  clear hv hs hp hn hr0
  go_enter Tryd.func19, Tryd.ntmps19
  go_upto_region 1 with fail
  obtain ⟨ho, hz, hc, hs3, hB⟩ := HPRE.out
  generalize hw3 : ((w.alloc (.cells #[.slice cA ins.length cC, .int .i64 V, .int .i64 P] 24)).alloc (.cells #[.int .i64 (n : Nat), .slice vA s.vars.length vC, .slice sA s.stack.length sC, .slice pA s.pts.length pC, .slice nA s.notes.length nC, .int .i64 s.fin, .int .i64 s.steps, .int .i64 s.br, .bool false, .int .i64 0] 55)).alloc (.cells #[.int .i64 0, .slice none 0 0, .slice none 0 0, .slice none 0 0, .slice none 0 0, .int .i64 0, .int .i64 0, .int .i64 0, .bool false, .int .i64 0] 55) = w3 at ho hz hc hs3 hB ⊢
  clear hw3 HPRE
  have c0 : w3.cell? ⟨w.heap.size + 1, 0, none⟩ = some (.int .i64 (n : Nat)) := (blk_cell ho 0).trans rfl
  have c1 : w3.cell? ⟨w.heap.size + 1, 1, none⟩ = some (.slice vA s.vars.length vC) := (blk_cell ho 1).trans rfl
  have c2 : w3.cell? ⟨w.heap.size + 1, 2, none⟩ = some (.slice sA s.stack.length sC) := (blk_cell ho 2).trans rfl
  have c3 : w3.cell? ⟨w.heap.size + 1, 3, none⟩ = some (.slice pA s.pts.length pC) := (blk_cell ho 3).trans rfl
  have c4 : w3.cell? ⟨w.heap.size + 1, 4, none⟩ = some (.slice nA s.notes.length nC) := (blk_cell ho 4).trans rfl
  have c5 : w3.cell? ⟨w.heap.size + 1, 5, none⟩ = some (.int .i64 s.fin) := (blk_cell ho 5).trans rfl
  have c6 : w3.cell? ⟨w.heap.size + 1, 6, none⟩ = some (.int .i64 s.steps) := (blk_cell ho 6).trans rfl
  have c7 : w3.cell? ⟨w.heap.size + 1, 7, none⟩ = some (.int .i64 s.br) := (blk_cell ho 7).trans rfl
  have c8 : w3.cell? ⟨w.heap.size + 1, 8, none⟩ = some (.bool false) := (blk_cell ho 8).trans rfl
  have c9 : w3.cell? ⟨w.heap.size + 1, 9, none⟩ = some (.int .i64 0) := (blk_cell ho 9).trans rfl
  have y0 : w3.cell? ⟨w.heap.size + 1 + 1, 0, none⟩ = some (.int .i64 0) := (blk_cell hz 0).trans rfl
  have y1 : w3.cell? ⟨w.heap.size + 1 + 1, 1, none⟩ = some (.slice none 0 0) := (blk_cell hz 1).trans rfl
  have y2 : w3.cell? ⟨w.heap.size + 1 + 1, 2, none⟩ = some (.slice none 0 0) := (blk_cell hz 2).trans rfl
  have y3 : w3.cell? ⟨w.heap.size + 1 + 1, 3, none⟩ = some (.slice none 0 0) := (blk_cell hz 3).trans rfl
  have y4 : w3.cell? ⟨w.heap.size + 1 + 1, 4, none⟩ = some (.slice none 0 0) := (blk_cell hz 4).trans rfl
  have y5 : w3.cell? ⟨w.heap.size + 1 + 1, 5, none⟩ = some (.int .i64 0) := (blk_cell hz 5).trans rfl
  have y6 : w3.cell? ⟨w.heap.size + 1 + 1, 6, none⟩ = some (.int .i64 0) := (blk_cell hz 6).trans rfl
  have y7 : w3.cell? ⟨w.heap.size + 1 + 1, 7, none⟩ = some (.int .i64 0) := (blk_cell hz 7).trans rfl
  have y8 : w3.cell? ⟨w.heap.size + 1 + 1, 8, none⟩ = some (.bool false) := (blk_cell hz 8).trans rfl
  have y9 : w3.cell? ⟨w.heap.size + 1 + 1, 9, none⟩ = some (.int .i64 0) := (blk_cell hz 9).trans rfl
  have k0 : w3.cell? ⟨w.heap.size, 0, none⟩ = some (.slice cA ins.length cC) := (blk_cell hc 0).trans rfl
  have k1 : w3.cell? ⟨w.heap.size, 1, none⟩ = some (.int .i64 V) := (blk_cell hc 1).trans rfl
  have k2 : w3.cell? ⟨w.heap.size, 2, none⟩ = some (.int .i64 P) := (blk_cell hc 2).trans rfl
  have fo := blk_frozen ho
  have fz := blk_frozen hz
  have HO := Lib.hid ho
  have HZ := Lib.hid hz
  have HCD := Lib.hid hc
  have HB := Lib.hid hB
  clear ho hz hc hB hs3
  obtain ⟨ad, hcA, hi0, hi1, hi2⟩ := at_T42 (Kd.C_below HR0.out HB.out) (n : Int) (by omega) (by omega)
  rw [Int.toNat_natCast] at hi0 hi1 hi2
  subst hcA
  have ei0 : w3.cell? (ad.add (n * 3)) = some (.int .i64 op) := hi0.trans (by rw [show (rd_T42 ins n).f0 = op from congrArg (·.1) hop])
  have ei1 : w3.cell? ⟨(ad.add (n * 3)).block, (ad.add (n * 3)).off + 1, none⟩ = some (.int .i64 a) := hi1.trans (by rw [show (rd_T42 ins n).f1 = a from congrArg (·.2.1) hop])
  have ei2 : w3.cell? ⟨(ad.add (n * 3)).block, (ad.add (n * 3)).off + 2, none⟩ = some (.int .i64 b) := hi2.trans (by rw [show (rd_T42 ins n).f2 = b from congrArg (·.2.2) hop])
  clear hi0 hi1 hi2 hop
  go_wp2_with fail
  refine (HPO.out _).mono ?_
  rintro e w' ⟨rfl, rfl⟩
  have HO4 := Lib.hid ((Below.heap_alloc w3 (.cells #[.int .i64 op, .int .i64 a, .int .i64 b] 42) _ (blk_lt HO.out)).trans HO.out)
  have HZ4 := Lib.hid ((Below.heap_alloc w3 (.cells #[.int .i64 op, .int .i64 a, .int .i64 b] 42) _ (blk_lt HZ.out)).trans HZ.out)
  have HC4 := Lib.hid ((Below.heap_alloc w3 (.cells #[.int .i64 op, .int .i64 a, .int .i64 b] 42) _ (blk_lt HCD.out)).trans HCD.out)
  have HI := Lib.hid (heap_alloc_new w3 (.cells #[.int .i64 op, .int .i64 a, .int .i64 b] 42))
  have HB4 := Lib.hid (HB.out.alloc HB.out.size (.cells #[.int .i64 op, .int .i64 a, .int .i64 b] 42))
  have hgo : w3.heap.size ≠ w.heap.size + 1 := fun e => absurd (blk_lt HO.out) (by omega)
  have hgz : w3.heap.size ≠ w.heap.size + 1 + 1 := fun e => absurd (blk_lt HZ.out) (by omega)
  have hgl : w.heap.size ≤ w3.heap.size := HB.out.size
  clear c0 y0 c1 y1 c2 y2 c3 y3 c4 y4 c5 y5 c6 y6 c7 y7 c8 y8 c9 y9 k0 k1 k2 fo fz ei0 ei1 ei2 HO HZ HCD HB
  have HO := HO4
  have HZ := HZ4
  have HCD := HC4
  have HB := HB4
  clear HO4 HZ4 HC4 HB4
  generalize w3.heap.size = gi at HI hgo hgz hgl ⊢
  generalize w3.alloc (.cells #[.int .i64 op, .int .i64 a, .int .i64 b] 42) = w4 at HO HZ HCD HB HI ⊢
  have c0 : w4.cell? ⟨w.heap.size + 1, 0, none⟩ = some (.int .i64 (n : Nat)) := (blk_cell HO.out 0).trans rfl
  have c1 : w4.cell? ⟨w.heap.size + 1, 1, none⟩ = some (.slice vA s.vars.length vC) := (blk_cell HO.out 1).trans rfl
  have c2 : w4.cell? ⟨w.heap.size + 1, 2, none⟩ = some (.slice sA s.stack.length sC) := (blk_cell HO.out 2).trans rfl
  have c3 : w4.cell? ⟨w.heap.size + 1, 3, none⟩ = some (.slice pA s.pts.length pC) := (blk_cell HO.out 3).trans rfl
  have c4 : w4.cell? ⟨w.heap.size + 1, 4, none⟩ = some (.slice nA s.notes.length nC) := (blk_cell HO.out 4).trans rfl
  have c5 : w4.cell? ⟨w.heap.size + 1, 5, none⟩ = some (.int .i64 s.fin) := (blk_cell HO.out 5).trans rfl
  have c6 : w4.cell? ⟨w.heap.size + 1, 6, none⟩ = some (.int .i64 s.steps) := (blk_cell HO.out 6).trans rfl
  have c7 : w4.cell? ⟨w.heap.size + 1, 7, none⟩ = some (.int .i64 s.br) := (blk_cell HO.out 7).trans rfl
  have c8 : w4.cell? ⟨w.heap.size + 1, 8, none⟩ = some (.bool false) := (blk_cell HO.out 8).trans rfl
  have c9 : w4.cell? ⟨w.heap.size + 1, 9, none⟩ = some (.int .i64 0) := (blk_cell HO.out 9).trans rfl
  have y0 : w4.cell? ⟨w.heap.size + 1 + 1, 0, none⟩ = some (.int .i64 0) := (blk_cell HZ.out 0).trans rfl
  have y1 : w4.cell? ⟨w.heap.size + 1 + 1, 1, none⟩ = some (.slice none 0 0) := (blk_cell HZ.out 1).trans rfl
  have y2 : w4.cell? ⟨w.heap.size + 1 + 1, 2, none⟩ = some (.slice none 0 0) := (blk_cell HZ.out 2).trans rfl
  have y3 : w4.cell? ⟨w.heap.size + 1 + 1, 3, none⟩ = some (.slice none 0 0) := (blk_cell HZ.out 3).trans rfl
  have y4 : w4.cell? ⟨w.heap.size + 1 + 1, 4, none⟩ = some (.slice none 0 0) := (blk_cell HZ.out 4).trans rfl
  have y5 : w4.cell? ⟨w.heap.size + 1 + 1, 5, none⟩ = some (.int .i64 0) := (blk_cell HZ.out 5).trans rfl
  have y6 : w4.cell? ⟨w.heap.size + 1 + 1, 6, none⟩ = some (.int .i64 0) := (blk_cell HZ.out 6).trans rfl
  have y7 : w4.cell? ⟨w.heap.size + 1 + 1, 7, none⟩ = some (.int .i64 0) := (blk_cell HZ.out 7).trans rfl
  have y8 : w4.cell? ⟨w.heap.size + 1 + 1, 8, none⟩ = some (.bool false) := (blk_cell HZ.out 8).trans rfl
  have y9 : w4.cell? ⟨w.heap.size + 1 + 1, 9, none⟩ = some (.int .i64 0) := (blk_cell HZ.out 9).trans rfl
  have k0 : w4.cell? ⟨w.heap.size, 0, none⟩ = some (.slice (some ad) ins.length cC) := (blk_cell HCD.out 0).trans rfl
  have k1 : w4.cell? ⟨w.heap.size, 1, none⟩ = some (.int .i64 V) := (blk_cell HCD.out 1).trans rfl
  have k2 : w4.cell? ⟨w.heap.size, 2, none⟩ = some (.int .i64 P) := (blk_cell HCD.out 2).trans rfl
  have i0 : w4.cell? ⟨gi, 0, none⟩ = some (.int .i64 op) := (blk_cell HI.out 0).trans rfl
  have i1 : w4.cell? ⟨gi, 1, none⟩ = some (.int .i64 a) := (blk_cell HI.out 1).trans rfl
  have i2 : w4.cell? ⟨gi, 2, none⟩ = some (.int .i64 b) := (blk_cell HI.out 2).trans rfl
  have fo := blk_frozen HO.out
  have fz := blk_frozen HZ.out
  go_wp2_with fail
  exact err_end { s with pc := n } vA sA pA nA vC sC pC nC HV.out HS.out HP.out HN.out HZ.out HB.out 21 (by decide) _ rfl
end Go.Proofs.YtbgfkepnlpgagaaDoor.P
