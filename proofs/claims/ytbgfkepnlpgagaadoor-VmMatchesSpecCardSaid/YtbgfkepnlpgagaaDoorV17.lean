/- The reference's step: its good end. -/
import Derived.Test.YtbgfkepnlpgagaaDoorV16
namespace Go.Proofs.YtbgfkepnlpgagaaDoor.P
open Go.RowKit Go.Proofs.YtbgfkepnlpgagaaDoorW.PrintWords Go.Proofs.YtbgfkepnlpgagaaDoorW.PrintLast Go.Proofs.YtbgfkepnlpgagaaDoorW.PrintMore
attribute [local go_sem] max2_int min2_int max_two min_two max_three min_three max_four min_four
set_option linter.unusedVariables false
set_option linter.unusedSimpArgs false

abbrev zst : Array Value := #[.int .i64 0, .slice none 0 0, .slice none 0 0, .slice none 0 0, .slice none 0 0, .int .i64 0, .int .i64 0, .int .i64 0, .bool false, .int .i64 0]
/-- The blocks of a step: the code, the state, the result, the instruction. -/
structure Fr (w W : World) (gi : Nat) (code st iv : Array Value) : Prop where
  o : W.heap[w.heap.size + 1]? = some (.cells st 55 (0, 0))
  z : W.heap[w.heap.size + 1 + 1]? = some (.cells zst 55 (0, 0))
  k : W.heap[w.heap.size]? = some (.cells code 24 (0, 0))
  i : W.heap[gi]? = some (.cells iv 42 (0, 0))
  b : Below w.heap.size w W
  n1 : gi ≠ w.heap.size + 1
  n2 : gi ≠ w.heap.size + 1 + 1
  n3 : w.heap.size + 3 ≤ gi
section
variable {w W W' : World} {gi : Nat} {code st iv : Array Value}
theorem Fr.move (h : Fr w W gi code st iv) (hb : Below w.heap.size w W') (hm : ∀ (k : Nat) (t : TypeId) (cs : Array Value), t ≠ 3 → W.heap[k]? = some (Obj.cells cs t (0, 0)) → W'.heap[k]? = W.heap[k]?) : Fr w W' gi code st iv :=
  ⟨(hm _ 55 _ (by decide) h.o).trans h.o, (hm _ 55 _ (by decide) h.z).trans h.z, (hm _ 24 _ (by decide) h.k).trans h.k, (hm _ 42 _ (by decide) h.i).trans h.i, hb, h.n1, h.n2, h.n3⟩
theorem Fr.below (h : Fr w W gi code st iv) (hb : Below W.heap.size W W') : Fr w W' gi code st iv := h.move (h.b.trans (hb.mono h.b.size)) (fun k t cs _ hk => hb.block k (blk_lt hk))
theorem Fr.grown (h : Fr w W gi code st iv) {row : Option Nat} (hg : W.grownBy W' row) (hr : ∀ k, row = some k → ∃ cs, W.heap[k]? = some (.cells cs 3 (0, 0))) (hb : Below w.heap.size w W') : Fr w W' gi code st iv :=
  h.move hb (fun k t cs ht hk => hg.block k (blk_lt hk) (fun e => by
    obtain ⟨cs', hc⟩ := hr k e.symm
    rw [hk] at hc
    injection hc with hc
    injection hc with _ hc
    exact ht hc))
theorem Fr.set (h : Fr w W gi code st iv) (i : Nat) (u : Value) {st' : Array Value} (e : st.setIfInBounds i u = st') : Fr w (W.setCell ⟨w.heap.size + 1, i, none⟩ u) gi code st' iv :=
  ⟨blk_put h.o i u e, blk_far h.z (p := ⟨w.heap.size + 1, i, none⟩) (by simp) u, blk_far h.k (p := ⟨w.heap.size + 1, i, none⟩) (by simp) u, blk_far h.i (p := ⟨w.heap.size + 1, i, none⟩) h.n1 u, h.b.setCell (p := ⟨w.heap.size + 1, i, none⟩) (by simp) u, h.n1, h.n2, h.n3⟩
theorem Fr.drew (h : Fr w W gi code st iv) : Fr w W.drew gi code st iv := ⟨h.o, h.z, h.k, h.i, h.b.drew, h.n1, h.n2, h.n3⟩
theorem Fr.fo (h : Fr w W gi code st iv) (i : Nat) : W.frozen? ⟨w.heap.size + 1, i, none⟩ = false := blk_frozen h.o i
theorem Fr.fz (h : Fr w W gi code st iv) (i : Nat) : W.frozen? ⟨w.heap.size + 1 + 1, i, none⟩ = false := blk_frozen h.z i
theorem Fr.so {v0 v1 v2 v3 v4 v5 v6 v7 v8 v9 : Value} (h : Fr w W gi code #[v0, v1, v2, v3, v4, v5, v6, v7, v8, v9] iv) : W.cell? ⟨w.heap.size + 1, 0, none⟩ = some v0 ∧ W.cell? ⟨w.heap.size + 1, 1, none⟩ = some v1 ∧ W.cell? ⟨w.heap.size + 1, 2, none⟩ = some v2 ∧ W.cell? ⟨w.heap.size + 1, 3, none⟩ = some v3 ∧ W.cell? ⟨w.heap.size + 1, 4, none⟩ = some v4 ∧ W.cell? ⟨w.heap.size + 1, 5, none⟩ = some v5 ∧ W.cell? ⟨w.heap.size + 1, 6, none⟩ = some v6 ∧ W.cell? ⟨w.heap.size + 1, 7, none⟩ = some v7 ∧ W.cell? ⟨w.heap.size + 1, 8, none⟩ = some v8 ∧ W.cell? ⟨w.heap.size + 1, 9, none⟩ = some v9 :=
  ⟨(blk_cell h.o 0).trans rfl, (blk_cell h.o 1).trans rfl, (blk_cell h.o 2).trans rfl, (blk_cell h.o 3).trans rfl, (blk_cell h.o 4).trans rfl, (blk_cell h.o 5).trans rfl, (blk_cell h.o 6).trans rfl, (blk_cell h.o 7).trans rfl, (blk_cell h.o 8).trans rfl, (blk_cell h.o 9).trans rfl⟩
theorem Fr.sz (h : Fr w W gi code st iv) : W.cell? ⟨w.heap.size + 1 + 1, 0, none⟩ = some (.int .i64 0) ∧ W.cell? ⟨w.heap.size + 1 + 1, 1, none⟩ = some (.slice none 0 0) ∧ W.cell? ⟨w.heap.size + 1 + 1, 2, none⟩ = some (.slice none 0 0) ∧ W.cell? ⟨w.heap.size + 1 + 1, 3, none⟩ = some (.slice none 0 0) ∧ W.cell? ⟨w.heap.size + 1 + 1, 4, none⟩ = some (.slice none 0 0) ∧ W.cell? ⟨w.heap.size + 1 + 1, 5, none⟩ = some (.int .i64 0) ∧ W.cell? ⟨w.heap.size + 1 + 1, 6, none⟩ = some (.int .i64 0) ∧ W.cell? ⟨w.heap.size + 1 + 1, 7, none⟩ = some (.int .i64 0) ∧ W.cell? ⟨w.heap.size + 1 + 1, 8, none⟩ = some (.bool false) ∧ W.cell? ⟨w.heap.size + 1 + 1, 9, none⟩ = some (.int .i64 0) :=
  ⟨(blk_cell h.z 0).trans rfl, (blk_cell h.z 1).trans rfl, (blk_cell h.z 2).trans rfl, (blk_cell h.z 3).trans rfl, (blk_cell h.z 4).trans rfl, (blk_cell h.z 5).trans rfl, (blk_cell h.z 6).trans rfl, (blk_cell h.z 7).trans rfl, (blk_cell h.z 8).trans rfl, (blk_cell h.z 9).trans rfl⟩
theorem Fr.sk {v0 v1 v2 : Value} (h : Fr w W gi #[v0, v1, v2] st iv) : W.cell? ⟨w.heap.size, 0, none⟩ = some v0 ∧ W.cell? ⟨w.heap.size, 1, none⟩ = some v1 ∧ W.cell? ⟨w.heap.size, 2, none⟩ = some v2 :=
  ⟨(blk_cell h.k 0).trans rfl, (blk_cell h.k 1).trans rfl, (blk_cell h.k 2).trans rfl⟩
theorem Fr.si {v0 v1 v2 : Value} (h : Fr w W gi code st #[v0, v1, v2]) : W.cell? ⟨gi, 0, none⟩ = some v0 ∧ W.cell? ⟨gi, 1, none⟩ = some v1 ∧ W.cell? ⟨gi, 2, none⟩ = some v2 :=
  ⟨(blk_cell h.i 0).trans rfl, (blk_cell h.i 1).trans rfl, (blk_cell h.i 2).trans rfl⟩
/-- A row that came in, or one of the call's own. -/
def Row (w W : World) (v : Value) (l : List Int) : Prop := RD w v l ∨ W.ownsRow w.heap.size 3 1 v l.length (n64 l)
theorem Row.end_ {b : Nat} {v : Value} {l : List Int} {cs : Array Value} (h : Row w W v l) (hb : W.heap[b]? = some (.cells cs 55 (0, 0))) (u0 u1 u2 u3 u4 u5 u6 u7 u8 u9 : Value) (hB : Below w.heap.size w ((((((((((W.setCell ⟨b, 0, none⟩ u0).setCell ⟨b, 1, none⟩ u1).setCell ⟨b, 2, none⟩ u2).setCell ⟨b, 3, none⟩ u3).setCell ⟨b, 4, none⟩ u4).setCell ⟨b, 5, none⟩ u5).setCell ⟨b, 6, none⟩ u6).setCell ⟨b, 7, none⟩ u7).setCell ⟨b, 8, none⟩ u8).setCell ⟨b, 9, none⟩ u9)) : RD ((((((((((W.setCell ⟨b, 0, none⟩ u0).setCell ⟨b, 1, none⟩ u1).setCell ⟨b, 2, none⟩ u2).setCell ⟨b, 3, none⟩ u3).setCell ⟨b, 4, none⟩ u4).setCell ⟨b, 5, none⟩ u5).setCell ⟨b, 6, none⟩ u6).setCell ⟨b, 7, none⟩ u7).setCell ⟨b, 8, none⟩ u8).setCell ⟨b, 9, none⟩ u9) v l := by
  rcases h with h | h
  · exact h.below hB
  · exact RD.of_own (own10 hb h _ _ _ _ _ _ _ _ _ _)
theorem ok_end (s' : St) {vv vs vp vn : Value} (h : Fr w W gi code (stC s'.pc vv vs vp vn s'.fin s'.steps s'.br s'.done 0) iv) (hv : Row w W vv s'.vars) (hs : Row w W vs s'.stack) (hp : Row w W vp s'.pts) (hn : Row w W vn s'.notes) (tmps : Array Value) (h6 : tmps[6]? = some (.pointer (some ⟨w.heap.size + 1 + 1, 0, none⟩))) :
    bodyPost Tryd.prog Tryd.f19 (RLeft w (.ok s')) .ret { tmps := tmps, defers := [] } ((((((((((W.setCell ⟨w.heap.size + 1 + 1, 0, none⟩ (.int .i64 s'.pc)).setCell ⟨w.heap.size + 1 + 1, 1, none⟩ vv).setCell ⟨w.heap.size + 1 + 1, 2, none⟩ vs).setCell ⟨w.heap.size + 1 + 1, 3, none⟩ vp).setCell ⟨w.heap.size + 1 + 1, 4, none⟩ vn).setCell ⟨w.heap.size + 1 + 1, 5, none⟩ (.int .i64 s'.fin)).setCell ⟨w.heap.size + 1 + 1, 6, none⟩ (.int .i64 s'.steps)).setCell ⟨w.heap.size + 1 + 1, 7, none⟩ (.int .i64 s'.br)).setCell ⟨w.heap.size + 1 + 1, 8, none⟩ (.bool s'.done)).setCell ⟨w.heap.size + 1 + 1, 9, none⟩ (.int .i64 0)) := by
  have hb := below10 h.b (g := w.heap.size + 1 + 1) (by omega) (.int .i64 s'.pc) vv vs vp vn (.int .i64 s'.fin) (.int .i64 s'.steps) (.int .i64 s'.br) (.bool s'.done) (.int .i64 0)
  exact bodyPost_ret (results19 tmps _ h6 (put10 h.z (.int .i64 s'.pc) vv vs vp vn (.int .i64 s'.fin) (.int .i64 s'.steps) (.int .i64 s'.br) (.bool s'.done) (.int .i64 0))) rfl ⟨s', 0, _, _, _, _, ⟨rfl, rfl⟩, rfl, hv.end_ h.z _ _ _ _ _ _ _ _ _ _ hb, hs.end_ h.z _ _ _ _ _ _ _ _ _ _ hb, hp.end_ h.z _ _ _ _ _ _ _ _ _ _ hb, hn.end_ h.z _ _ _ _ _ _ _ _ _ _ hb, hb⟩
theorem no_end (s' : St) {vv vs vp vn : Value} (code' : Int) (h : Fr w W gi code (stC s'.pc vv vs vp vn s'.fin s'.steps s'.br false code') iv) (hc : code' ≠ 0) (hv : Row w W vv s'.vars) (hs : Row w W vs s'.stack) (hp : Row w W vp s'.pts) (hn : Row w W vn s'.notes) (tmps : Array Value) (h6 : tmps[6]? = some (.pointer (some ⟨w.heap.size + 1 + 1, 0, none⟩))) :
    bodyPost Tryd.prog Tryd.f19 (RLeft w (.error code')) .ret { tmps := tmps, defers := [] } ((((((((((W.setCell ⟨w.heap.size + 1 + 1, 0, none⟩ (.int .i64 s'.pc)).setCell ⟨w.heap.size + 1 + 1, 1, none⟩ vv).setCell ⟨w.heap.size + 1 + 1, 2, none⟩ vs).setCell ⟨w.heap.size + 1 + 1, 3, none⟩ vp).setCell ⟨w.heap.size + 1 + 1, 4, none⟩ vn).setCell ⟨w.heap.size + 1 + 1, 5, none⟩ (.int .i64 s'.fin)).setCell ⟨w.heap.size + 1 + 1, 6, none⟩ (.int .i64 s'.steps)).setCell ⟨w.heap.size + 1 + 1, 7, none⟩ (.int .i64 s'.br)).setCell ⟨w.heap.size + 1 + 1, 8, none⟩ (.bool false)).setCell ⟨w.heap.size + 1 + 1, 9, none⟩ (.int .i64 code')) := by
  have hb := below10 h.b (g := w.heap.size + 1 + 1) (by omega) (.int .i64 s'.pc) vv vs vp vn (.int .i64 s'.fin) (.int .i64 s'.steps) (.int .i64 s'.br) (.bool false) (.int .i64 code')
  exact bodyPost_ret (results19 tmps _ h6 (put10 h.z (.int .i64 s'.pc) vv vs vp vn (.int .i64 s'.fin) (.int .i64 s'.steps) (.int .i64 s'.br) (.bool false) (.int .i64 code'))) rfl ⟨{ s' with done := false }, code', _, _, _, _, ⟨rfl, rfl, hc⟩, rfl, hv.end_ h.z _ _ _ _ _ _ _ _ _ _ hb, hs.end_ h.z _ _ _ _ _ _ _ _ _ _ hb, hp.end_ h.z _ _ _ _ _ _ _ _ _ _ hb, hn.end_ h.z _ _ _ _ _ _ _ _ _ _ hb, hb⟩
end
theorem RD.take {w : World} {A : Option Addr} {n c : Nat} {l : List Int} (h : RD w (.slice A n c) l) (m : Nat) (hm : m ≤ n) : RD w (.slice A m c) (l.take m) := by
  obtain ⟨A', c', he, hc, hr, hty⟩ := h
  injection he with h1 h2 h3
  subst h1; subst h2; subst h3
  have hl : (l.take m).length = m := by rw [List.length_take]; omega
  have ht := Kd.C_take hr hm
  exact ⟨A, c, by rw [hl], by rw [hl]; omega, ht, hty⟩
theorem RD.C {w : World} {A : Option Addr} {n c : Nat} {l : List Int} (h : RD w (.slice A n c) l) : n = l.length ∧ n ≤ c ∧ Kd.C (Kd.int .i64) w A n l := by
  obtain ⟨A', c', he, hc, hr, _⟩ := h
  injection he with h1 h2 h3
  subst h1; subst h2; subst h3
  exact ⟨rfl, hc, hr⟩
end Go.Proofs.YtbgfkepnlpgagaaDoor.P
