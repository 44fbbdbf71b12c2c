/- Some small texts of the machine's walk, in one. -/
import Derived.Test.YtfdgihdmhdhpcaaDoorProg
import Derived.Below
import Derived.Deep.Draws
import Derived.Deep.AppendLies
import Derived.Maps.AppendAt
import Derived.OwnWalk
import Derived.Laws.BytesArg
import Derived.Laws.MakeOwn
import Derived.Laws.OwnMore
import Derived.Deep.OwnRows
import Derived.Tactics
import Derived.Lib.ConvBytes
import Derived.Laws.Slices
import Derived.WalkKit
import Derived.KernelRfl
import Derived.RowKit3
import Derived.Deep.LoopGhost
import Derived.Deep.QuietTactic
import Derived.BigQuiet
import Derived.WideLaws
import Derived.Deep.DeepCutAuto
import Derived.Deep.CutBlock
import Derived.Deep.RegionHeld3
import Derived.Laws.Rows
import Derived.Lib.AppendStr
import Derived.ArgAppend
import Derived.Laws.IdiomCopy
import Derived.OrdersHeld
import Derived.Laws.BitsLemmas
import Derived.RowKit
import Derived.Test.YtfdgihdmhdhpcaaDoorWWords
import Derived.Test.YtfdgihdmhdhpcaaDoorWLast
import Derived.Test.YtfdgihdmhdhpcaaDoorWTab
import Derived.Test.YtfdgihdmhdhpcaaDoorWFour
import Derived.Test.YtfdgihdmhdhpcaaDoorWQPut
import Derived.Test.YtfdgihdmhdhpcaaDoorWApart
import Derived.Test.YtfdgihdmhdhpcaaDoorWArr
import Derived.Test.YtfdgihdmhdhpcaaDoorWZeros
import Derived.Test.YtfdgihdmhdhpcaaDoorWFoot
import Derived.Test.YtfdgihdmhdhpcaaDoorWKept
import Derived.Test.YtfdgihdmhdhpcaaDoorWShare
import Derived.Test.YtfdgihdmhdhpcaaDoorWN
import Derived.Test.YtfdgihdmhdhpcaaDoorWFootNe
import Derived.Test.YtfdgihdmhdhpcaaDoorWAt
import Derived.Test.YtfdgihdmhdhpcaaDoorWEqStruct
import Derived.Test.YtfdgihdmhdhpcaaDoorWRepsOne
import Derived.Test.YtfdgihdmhdhpcaaDoorWInv
import Derived.Test.YtfdgihdmhdhpcaaDoorWInvWords
import Derived.Test.YtfdgihdmhdhpcaaDoorWGuard
import Derived.Test.YtfdgihdmhdhpcaaDoorWNEv
import Derived.Test.YtfdgihdmhdhpcaaDoorWMore
import Derived.Lib.Hide
import Derived.Outline
import Derived.Recover
import Derived.WalkLawsBesides
import Derived.Laws.Panics
import Derived.Laws.Pointers
import Derived.Tactics2
import Derived.Deep.RegionWith
import Derived.WalkSpells
import Derived.WalkMore
import Derived.Laws.Cover3
import Derived.Deep.MidRow
import Derived.Test.YtfdgihdmhdhpcaaDoorD1
import Derived.Test.YtfdgihdmhdhpcaaDoorS2
import Derived.RangeFuncNested
import Derived.RangeFuncBound
import Derived.RangeFuncCalls
import Derived.RangeFuncLeaves
import Derived.RangeFuncBox
import Derived.RangeFuncFrom
import Derived.Shelf.Abstract
import Derived.Shelf.RegionOpen
import Derived.OwnWalkIn
import Derived.TacticsInMore
import Derived.LoopNIn
import Derived.LoopIn
import Derived.Sort.QuietIn
section
namespace Go.Proofs.YtfdgihdmhdhpcaaDoor.P
open Go.RowKit Go.Proofs.YtfdgihdmhdhpcaaDoorW.PrintWords Go.Proofs.YtfdgihdmhdhpcaaDoorW.PrintLast Go.Proofs.YtfdgihdmhdhpcaaDoorW.PrintMore
attribute [local go_sem] max2_int min2_int max_two min_two max_three min_three max_four min_four
set_option linter.unusedVariables false
set_option linter.unusedSimpArgs false
theorem run_eql_nil74 (a : Option Addr) (l c : Nat) (w : World) : (binOp .eql 74 (.slice a l c) (.slice none 0 0)).run Tryd.prog w = .ok (.bool a.isNone) w := by
  simp only [binOp]
  simp [run_equal_slice_nil w 74 5 a l c Tryd.underlying74]
attribute [local go_sem] run_eql_nil74
theorem C_zero {α : Type} {d : Kd α} {w : World} {n : Nat} {l : List α} (h : Kd.C d w none n l) : l = [] := by
  have h1 : l.length = n := h.1
  by_cases hn : 0 < n
  · obtain ⟨ad, e, _⟩ := h.2.2 hn
    cases e
  · exact List.length_eq_zero_iff.1 (by omega)
set_option maxRecDepth 100000 in
set_option maxHeartbeats 2000000 in
theorem clone_calls (A0 : Option Addr) (c0 : Nat) (l0 : List Int) (w : World) (hr : Kd.C (Kd.int .u8) w A0 l0.length l0) (hl : l0.length < 140737488355328) :
    Calls Tryd.prog 90 #[.slice A0 l0.length c0] w fun e w' => ∃ v, e = .returned v ∧ Kd.R (Kd.int .u8) 5 w' w.heap.size (fun _ => True) v l0 ∧ Below w.heap.size w w' := by
  have HL := Aside0.mk hl
  clear hl
  rcases A0 with _ | ad
  · obtain rfl := C_zero hr
    clear hr
    go_enter Tryd.func90, Tryd.ntmps90
    go_wp2
    go_ret
    exact ⟨_, rfl, Kd.R_nil _ _ _ _ _, Below.refl _ _⟩
  · have HR := Aside0.mk hr
    clear hr
    go_enter Tryd.func90, Tryd.ntmps90
    go_wp2_with (first
      | ((with_reducible refine gate_dst (N := 5) rfl ?_); refine Kd.R_lit (Kd.int .u8) (w0 := w) w.heap.size 5 ?hg (N := 5) ?hd (xs := ([] : List Int)) (inner := []) (ok := fun _ => True) (okp := fun _ => True) ?hr ?hp (fun _ hk => hk) trivial (Below.refl _ _) (Nat.le_refl _) (by simp) ?_; (case hd => rfl); (case hg => rfl); (case hr => first | (go_simp; done) | (go_simp; rfl)); (case hp => exact (Reps.none _ _)); intro v1 w1 ho hb hg_ hnew_; clear hg_ hnew_; have HO := Aside0.mk ho; have HB := Aside0.mk hb; clear ho hb)
      | ((with_reducible refine gate_builtin (b := .append) (xs := #[.tmp 5, .tmp 6]) rfl ?_); at_builtin; refine Kd.R_append_row (Value.int .u8) 0 (h1 := fun _ => rfl) (w0 := w) w.heap.size rfl (.tmp 5) (.tmp 6) 74 5 (.int .u8 0) 1 rfl Tryd.underlying74 info5 rfl (by decide) v1 [] l0 (some ad) _ _ (fun _ => True) rfl rfl (fun _ _ => trivial) ?aO ?aR ?aB ?aS ?aL ?_; (case aO => exact HO.out); (case aR => exact Kd.C_below HR.out HB.out); (case aB => exact HB.out); (case aS => exact below_size HB.out); (case aL => (have := HL.out; simp; omega)); intro v2 w2 ho hb hg hat; have HO2 := Aside0.mk ho; have HB2 := Aside0.mk hb; clear ho hb hg hat))
    go_ret
    exact ⟨_, rfl, by have h_ := HO2.out; rw [List.nil_append] at h_; exact h_, HB2.out⟩
end Go.Proofs.YtfdgihdmhdhpcaaDoor.P
end
section
namespace Go.Proofs.YtfdgihdmhdhpcaaDoor.P
open Go.RowKit Go.Shelf Go.Proofs.YtfdgihdmhdhpcaaDoorW.PrintWords Go.Proofs.YtfdgihdmhdhpcaaDoorW.PrintLast Go.Proofs.YtfdgihdmhdhpcaaDoorW.PrintMore
attribute [local go_sem] max2_int min2_int max_two min_two max_three min_three max_four min_four
set_option linter.unusedVariables false
set_option linter.unusedSimpArgs false
attribute [local go_sem] Oper.semAt_some
theorem chunk_in (n : Nat) (A : Option Addr) (len cap : Nat) (w : World) :
    CallsIn Fence.wide n Tryd.prog 93 #[.slice A len cap, .int .i64 64] w fun e w' => e = .returned (.func (.func 104) #[] #[.pointer (some ⟨w.heap.size, 0, none⟩), .pointer (some ⟨w.heap.size + 1, 0, none⟩)]) ∧ w' = (w.alloc (.cells #[.slice A len cap] 74)).alloc (.cells #[.int .i64 64] 3) := by
  refine callsIn_of_wp Tryd.func93 rfl trivial ?_ rfl
  simp only [Tryd.ntmps93, List.size_toArray, List.length_cons, List.length_nil, Nat.reduceAdd, Nat.reduceSub, Array.replicate_succ, Array.replicate_zero, List.push_toArray, List.append_toArray, List.nil_append, List.cons_append]
  gi_wp2
  go_ret
  exact ⟨rfl, rfl⟩
theorem fin_take_succ (m k : Nat) (h : k < m) : (List.finRange m).take (k + 1) = (List.finRange m).take k ++ [⟨k, h⟩] := by
  rw [List.take_succ_eq_append_getElem (by rw [List.length_finRange]; exact h), List.getElem_finRange]; rfl
/-- The iterator's two boxes lie as they lay. -/
structure KC (Bs : Nat) (W W' : World) : Prop where
  size : W.heap.size ≤ W'.heap.size
  a : W'.heap[Bs]? = W.heap[Bs]?
  b : W'.heap[Bs + 1]? = W.heap[Bs + 1]?
theorem KC.refl (Bs : Nat) (W : World) : KC Bs W W := ⟨Nat.le_refl _, rfl, rfl⟩
theorem KC.trans {Bs : Nat} {A B C : World} (h : KC Bs A B) (k : KC Bs B C) : KC Bs A C := ⟨Nat.le_trans h.size k.size, k.a.trans h.a, k.b.trans h.b⟩
theorem KC.drewN {Bs : Nat} {A B : World} (h : KC Bs A B) (n : Nat) : KC Bs A (B.drewN n) := ⟨h.size, h.a, h.b⟩
theorem cell_heap {W W' : World} {b : Nat} (h : W'.heap[b]? = W.heap[b]?) (j : Nat) : W'.cell? ⟨b, j, none⟩ = W.cell? ⟨b, j, none⟩ := by simp [World.cell?, h]
theorem KC.putObj {Bs : Nat} {w : World} (hb : Bs + 1 < w.heap.size) (W : World) (l : Nat) (o o' : Obj) (hl : w.heap.size ≤ l) (_ : W.heap[l]? = some o) (_ : o.isCells = false) (_ : o.isWalk = false) : KC Bs W (W.putObj l o') :=
  ⟨by simp, World.putObj_heap_other (by omega), World.putObj_heap_other (by omega)⟩
theorem below_drewN_ {B : Nat} {w w' : World} (h : Below B w w') (n : Nat) : Below B w (w'.drewN n) := pw_below_drewN h n
set_option maxRecDepth 100000 in
set_option maxHeartbeats 2000000 in
theorem chunk1_in (n : Nat) (hn : 1 ≤ n) (l Bs : Nat) (ad : Addr) (len cap : Nat) (hcap : len ≤ cap) (hm3 : len % 64 = 0) (hreach : len ≤ 4611686018427387904) (J Jx : List (Fin (len / 64)) → World → Prop) (hJd : ∀ s W n, J s W → J s (W.drewN n))
    (hY : ∀ pre x W, J pre W → pre.length < len / 64 → YieldAt Fence.wide (n - 1) Tryd.prog l #[.slice (some (ad.add (64 * x.1))) 64 64] W fun e W' =>
      (e = .returned (.bool true) ∧ J (pre ++ [x]) W' ∧ KC Bs W W') ∨ (e = .returned (.bool false) ∧ Jx (pre ++ [x]) W'))
    (W : World) (hB1 : W.cell? ⟨Bs, 0, none⟩ = some (.slice (some ad) len cap)) (hB2 : W.cell? ⟨Bs + 1, 0, none⟩ = some (.int .i64 64)) (h0 : J [] W) :
    CallsIn Fence.wide n Tryd.prog 104 #[.func (.yield l) #[] #[], .pointer (some ⟨Bs, 0, none⟩), .pointer (some ⟨Bs + 1, 0, none⟩)] W fun e W' => (∃ v, e = .returned v) ∧
      ((∃ ys, ys = List.finRange (len / 64) ∧ J ys W') ∨ (∃ pre, (∃ k, k ≤ len / 64 ∧ pre = (List.finRange (len / 64)).take k) ∧ Jx pre W')) := by
  refine callsIn_of_wp Tryd.func104 rfl trivial ?_ rfl
  simp only [Tryd.ntmps104, List.size_toArray, List.length_cons, List.length_nil, Nat.reduceAdd, Nat.reduceSub, Array.replicate_succ, Array.replicate_zero, List.push_toArray, List.append_toArray, List.nil_append, List.cons_append]
  gi_wp2_with fail
  gi_loopw [4] (fun i wr => ∃ k : Nat, k ≤ len / 64 ∧ i = .int .i64 ((64 * k : Nat) : Int) ∧ J ((List.finRange (len / 64)).take k) wr ∧ KC Bs W wr)
    (fun i _ => len - (intOf i).toNat)
  case atStart => exact ⟨0, Nat.zero_le _, rfl, h0, KC.refl _ _⟩
  case round =>
    obtain ⟨k, hk, rfl, hJs, hnx⟩ := hrel
    have hc1 := (cell_heap hnx.a 0).trans hB1
    have hc2 := (cell_heap hnx.b 0).trans hB2
    by_cases hlt : k < len / 64
    · have hlt3 : 64 * k + 64 ≤ len := by omega
      have hmn : (if ((len - 64 * k : Nat) : Int) < 64 then ((len - 64 * k : Nat) : Int) else 64) = 64 := by rw [if_neg (by omega)]
      have HY := Lib.hid hY
      have HJd := Lib.hid hJd
      clear hY hJd
      gi_wp2_with fail
      gi_quiet (fail)
      have hJ2 := HJd.out _ _ nq hJs
      have hn2 : KC Bs W (wr.drewN nq) := hnx.drewN nq
      have hc1' := (cell_heap hn2.a 0).trans hB1
      have hc2' := (cell_heap hn2.b 0).trans hB2
      obtain ⟨wq, hwq⟩ : ∃ wq, wr.drewN nq = wq := ⟨_, rfl⟩
      rw [hwq] at hJ2 hn2 hc1' hc2' ⊢
      obtain ⟨fn, tmps, assign, body, hy, hR⟩ := HY.out _ (⟨k, hlt⟩ : Fin (len / 64)) wq hJ2 (by rw [List.length_take, List.length_finRange]; omega)
      clear hwq hnx hc1 hc2 hJs
      gi_wp2_with fail
      refine hR.mono ?_
      rintro e W3 (⟨rfl, hJ3, hk3⟩ | ⟨rfl, hJx3⟩)
      · have hn3 := hn2.trans hk3
        have hc1'' := (cell_heap hn3.a 0).trans hB1
        have hc2'' := (cell_heap hn3.b 0).trans hB2
        gi_wp2_with fail
        go_roundw
        case rel => exact ⟨k + 1, by omega, by go_num, by rw [fin_take_succ _ _ hlt]; exact hJ3, hn3⟩
        case measure => simp [intOf]; omega
      · gi_wp2
        refine bodyPost_ret (results_none rfl _ _ _) rfl ?_
        exact ⟨⟨_, rfl⟩, .inr ⟨_, ⟨k + 1, by omega, (fin_take_succ _ _ hlt).symm⟩, hJx3⟩⟩
    · have hke : 64 * k = len := by omega
      gi_wp2
      go_end0
      exact ⟨⟨_, rfl⟩, .inl ⟨_, rfl, by rw [← List.take_of_length_le (l := List.finRange (len / 64)) (i := k) (by rw [List.length_finRange]; omega)]; exact hJs⟩⟩
set_option maxRecDepth 100000 in
set_option maxHeartbeats 2000000 in
theorem chunk1_nil (n : Nat) (l Bs : Nat) (A : Option Addr) (cap : Nat) (J : List (Fin (0 / 64)) → World → Prop) (W : World) (hB1 : W.cell? ⟨Bs, 0, none⟩ = some (.slice A 0 cap)) (h0 : J [] W) :
    CallsIn Fence.wide n Tryd.prog 104 #[.func (.yield l) #[] #[], .pointer (some ⟨Bs, 0, none⟩), .pointer (some ⟨Bs + 1, 0, none⟩)] W fun e W' => (∃ v, e = .returned v) ∧ J [] W' := by
  refine callsIn_of_wp Tryd.func104 rfl trivial ?_ rfl
  simp only [Tryd.ntmps104, List.size_toArray, List.length_cons, List.length_nil, Nat.reduceAdd, Nat.reduceSub, Array.replicate_succ, Array.replicate_zero, List.push_toArray, List.append_toArray, List.nil_append, List.cons_append]
  gi_wp2_with fail
  gi_loopw [4] (fun i wr => i = .int .i64 0 ∧ wr = W) (fun i _ => 0)
  case atStart => exact ⟨rfl, rfl⟩
  case round =>
    obtain ⟨rfl, rfl⟩ := hrel
    gi_wp2
    go_end0
    exact ⟨⟨_, rfl⟩, h0⟩
theorem drewN_grown (W : World) (n : Nat) : W.grownBy (W.drewN n) none := ⟨rfl, rfl, rfl, Nat.le_refl _, fun _ _ _ => rfl⟩
theorem chunk_stops (n : Nat) (hn : 1 ≤ n) (Bs : Nat) (A : Option Addr) (len cap : Nat) (hcap : len ≤ cap) (hm3 : len % 64 = 0) (hreach : len ≤ 4611686018427387904) (w : World) (hn₀ : Bs + 1 < w.heap.size)
    (hA : 0 < len → A.isSome) (hc1 : w.cell? ⟨Bs, 0, none⟩ = some (.slice A len cap)) (hc2 : w.cell? ⟨Bs + 1, 0, none⟩ = some (.int .i64 64)) :
    SeqStopsK Fence.wide n Tryd.prog 104 #[.pointer (some ⟨Bs, 0, none⟩), .pointer (some ⟨Bs + 1, 0, none⟩)] (fun x : Fin (len / 64) => #[.slice (some ((A.getD default).add (64 * x.1))) 64 64]) (KC Bs) (fun ys => ys = List.finRange (len / 64))
      (fun pre => ∃ k, k ≤ len / 64 ∧ pre = (List.finRange (len / 64)).take k) (len / 64) w := fun l J Jx W hW hJ _ hY h0 => by
  have hc1' := (hW.cell (p := ⟨Bs, 0, none⟩) (by simp; omega)).trans hc1
  have hc2' := (hW.cell (p := ⟨Bs + 1, 0, none⟩) (by simp; omega)).trans hc2
  by_cases hl : 0 < len
  · obtain ⟨ad, rfl⟩ := Option.isSome_iff_exists.1 (hA hl)
    exact chunk1_in n hn l Bs ad len cap hcap hm3 hreach J Jx (fun s W1 m hs => hJ s W1 _ none hs (drewN_grown W1 m) (fun r e => by cases e)) hY W hc1' hc2' h0
  · obtain rfl : len = 0 := by omega
    exact (chunk1_nil n l Bs A cap J W hc1' h0).mono fun e W' ⟨he, hj⟩ => ⟨he, .inl ⟨[], rfl, hj⟩⟩

/-- Marks on the way out: each block of an earlier loop's is shut in one step. -/
theorem leaves_marks (fn : Func) (tmps : Array Value) (R : Ending → World → Prop) (v : Value) (n : Nat) : ∀ (Ds : List Nat) (w0 W : World), Ds.Nodup → (∀ D ∈ Ds, W.heap[D]? = some (.deferred (some []))) →
    (∀ D ∈ Ds, w0.heap.size ≤ D) → Below w0.heap.size w0 W →
    (∀ W', Below w0.heap.size w0 W' → (∀ p v, W.cell? p = some v → W'.cell? p = some v) → (results fn tmps).run Tryd.prog W' = .ok v W' ∧ R (.returned v) W') →
    LeavesInM Fence.wide n Tryd.prog fn tmps R (Ds.map fun D => { target := .collected D, args := #[] }) .returning W
  | [], w0, W, _, _, _, hB, hR => by
    obtain ⟨h1, h2⟩ := hR W hB (fun p v h => h)
    exact ⟨v, h1, h2⟩
  | D :: Ds, w0, W, hnd, hD, hge, hB, hR => by
    obtain ⟨hn1, hn2⟩ := List.nodup_cons.1 hnd
    have hDD := hD D List.mem_cons_self
    refine ⟨by simp, .inl ⟨D, _, rfl, run_takeDeferred hDD, ?_⟩⟩
    refine leaves_marks fn tmps R v n Ds w0 _ hn2 (fun E hE => ?_) (fun E hE => hge E (List.mem_cons_of_mem _ hE)) ?_ ?_
    · rw [World.putObj_heap_other (by rintro rfl; exact hn1 hE)]
      exact hD E (List.mem_cons_of_mem _ hE)
    · exact hB.trans (belowK_b (w := w0) (Nat.le_refl _) W D _ _ (hge D List.mem_cons_self) hDD rfl rfl)
    · intro W' hB' hk
      exact hR W' hB' (fun p v h => hk p v (cell_kept h (grownBy_putObj' _ D (.deferred none)) (fun r e => by cases e; exact ⟨_, hDD, rfl⟩)))

theorem ownFrom_marks {β : Type} (Ds : List Nat) (W0 : World) (hlt : ∀ D ∈ Ds, D < W0.heap.size) : OwnFrom W0.heap.size (fun (_ : β) W => ∀ D ∈ Ds, W.heap[D]? = some (.deferred (some []))) := by
  intro s A B row hs hg hr D hD
  have h1 := hs D hD
  rw [hg.block D (Array.getElem?_eq_some_iff.1 h1).1 (fun e => by have := (hr D e.symm).1; have := hlt D hD; omega)]
  exact h1
end Go.Proofs.YtfdgihdmhdhpcaaDoor.P
end
