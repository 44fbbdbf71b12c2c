import Derived.Test.YtfdgihdmhdhpcaaDoorProg
import Derived.Below
import Derived.Deep.Draws
import Derived.Deep.AppendLies
import Derived.Maps.AppendAt
import Derived.OwnWalk
import Derived.Laws.BytesArg
import Derived.Laws.MakeOwn
import Derived.Laws.OwnMore
import Derived.Deep.OwnRows
import Derived.Tactics
import Derived.Lib.ConvBytes
import Derived.Laws.Slices
import Derived.WalkKit
import Derived.KernelRfl
import Derived.RowKit3
import Derived.Deep.LoopGhost
import Derived.Deep.QuietTactic
import Derived.BigQuiet
import Derived.WideLaws
import Derived.Deep.DeepCutAuto
import Derived.Deep.CutBlock
import Derived.Deep.RegionHeld3
import Derived.Laws.Rows
import Derived.Lib.AppendStr
import Derived.ArgAppend
import Derived.Laws.IdiomCopy
import Derived.OrdersHeld
import Derived.Laws.BitsLemmas
import Derived.RowKit
import Derived.Test.YtfdgihdmhdhpcaaDoorWWords
import Derived.Test.YtfdgihdmhdhpcaaDoorWLast
import Derived.Test.YtfdgihdmhdhpcaaDoorWTab
import Derived.Test.YtfdgihdmhdhpcaaDoorWFour
import Derived.Test.YtfdgihdmhdhpcaaDoorWQPut
import Derived.Test.YtfdgihdmhdhpcaaDoorWApart
import Derived.Test.YtfdgihdmhdhpcaaDoorWArr
import Derived.Test.YtfdgihdmhdhpcaaDoorWZeros
import Derived.Test.YtfdgihdmhdhpcaaDoorWFoot
import Derived.Test.YtfdgihdmhdhpcaaDoorWKept
import Derived.Test.YtfdgihdmhdhpcaaDoorWShare
import Derived.Test.YtfdgihdmhdhpcaaDoorWN
import Derived.Test.YtfdgihdmhdhpcaaDoorWFootNe
import Derived.Test.YtfdgihdmhdhpcaaDoorWAt
import Derived.Test.YtfdgihdmhdhpcaaDoorWEqStruct
import Derived.Test.YtfdgihdmhdhpcaaDoorWRepsOne
import Derived.Test.YtfdgihdmhdhpcaaDoorWInv
import Derived.Test.YtfdgihdmhdhpcaaDoorWInvWords
import Derived.Test.YtfdgihdmhdhpcaaDoorWGuard
import Derived.Test.YtfdgihdmhdhpcaaDoorWNEv
import Derived.Test.YtfdgihdmhdhpcaaDoorWMore
import Derived.Lib.Hide
import Derived.Outline
import Derived.Recover
import Derived.WalkLawsBesides
import Derived.Laws.Panics
import Derived.Laws.Pointers
import Derived.Tactics2
import Derived.Deep.RegionWith
import Derived.WalkSpells
import Derived.WalkMore
import Derived.Laws.Cover3
import Derived.Deep.MidRow
import Derived.Deep.Upon
import Derived.Test.YtfdgihdmhdhpcaaDoorS6
namespace Go.Proofs.YtfdgihdmhdhpcaaDoor.P
open Go.RowKit Go.Proofs.YtfdgihdmhdhpcaaDoorW.PrintWords Go.Proofs.YtfdgihdmhdhpcaaDoorW.PrintLast Go.Proofs.YtfdgihdmhdhpcaaDoorW.PrintMore
attribute [local go_sem] max2_int min2_int max_two min_two max_three min_three max_four min_four
set_option linter.unusedVariables false
set_option linter.unusedSimpArgs false
def sha_Digest.f (k : Nat) (a0 : Int) (l1 : List (List Int)) : Option (Int × Int × Int × Int × Int × Int × Int × Int × Int × Int × Int × Int × Int × Int × Int × Int) := (sha_join.f k [a0 % 256] l1).bind fun t => (if t.length < 140737488355000 then some (tup16 (sumP t)) else none)
theorem sha_Digest.mono : ∀ a0 l1 k, LeO (sha_Digest.f k a0 l1) (sha_Digest.f (k + 1) a0 l1) := by
  intro a0 l1 k
  unfold sha_Digest.f
  exact LeO.bind (sha_join.mono _ _ k) (fun _ => LeO.refl _)
set_option maxRecDepth 100000 in
set_option maxHeartbeats 1000000 in
theorem sha_Digest.calls (k : Nat) (a0 : Int) (A1 : Option Addr) (c1 : Nat) (l1 : List (List Int)) (r1 : Int) (r2 : Int) (r3 : Int) (r4 : Int) (r5 : Int) (r6 : Int) (r7 : Int) (r8 : Int) (r9 : Int) (r10 : Int) (r11 : Int) (r12 : Int) (r13 : Int) (r14 : Int) (r15 : Int) (r16 : Int) (w : World) (hr1 : Kd.C (Kd.slice 5 (Kd.int .u8)) w A1 l1.length l1) (hc1 : l1.length ≤ c1) (htab : TabW w) (h : sha_Digest.f k a0 l1 = some (r1, r2, r3, r4, r5, r6, r7, r8, r9, r10, r11, r12, r13, r14, r15, r16)) :
    Calls Tryd.prog 43 #[.int .i64 a0, .slice A1 l1.length c1] w fun e w' => e = .returned (.agg #[.int .u8 r1, .int .u8 r2, .int .u8 r3, .int .u8 r4, .int .u8 r5, .int .u8 r6, .int .u8 r7, .int .u8 r8, .int .u8 r9, .int .u8 r10, .int .u8 r11, .int .u8 r12, .int .u8 r13, .int .u8 r14, .int .u8 r15, .int .u8 r16]) ∧ Below w.heap.size w w' := by
  have HT := Aside0.mk htab
  have HR := Aside0.mk hr1
  have HC := Aside0.mk hc1
  clear htab hr1 hc1
  unfold sha_Digest.f at h
  obtain ⟨t, ht, h⟩ := Option.bind_eq_some_iff.1 h
  by_cases hl : t.length < 140737488355000
  case neg => rw [if_neg hl] at h; cases h
  rw [if_pos hl] at h
  have HH := Aside0.mk (Option.some.inj h)
  have HJ := Aside0.mk ht
  have HL := Aside0.mk hl
  clear h ht hl
  go_enter Tryd.func43, Tryd.ntmps43
  go_wp2_with (first
    | ((with_reducible refine gate_dst (N := 7) rfl ?_); refine Kd.R_lit (Kd.int .u8) (w0 := w) w.heap.size 5 ?hg (N := 7) ?hd (xs := [a0 % 256]) (inner := [.int .u8 (a0 % 256)]) (ok := fun k => w.heap.size < k) (okp := fun _ => False) ?hr ?hp (fun _ hk => hk.elim) ?hf (below_alloc (Below.refl _ w) _) (by simp) (by simp) ?_; (case hd => rfl); (case hg => rfl); (case hr => first | (go_simp; done) | (go_simp; rfl)); (case hp => exact Reps.one (show Kd.M (Kd.int .u8) _ _ _ (a0 % 256) [.int .u8 (a0 % 256)] from rfl) (Reps.none _ _)); (case hf => simp); intro v1 w1 ho hb hg_ hnew_; have HO := Aside0.mk ho; have HB := Aside0.mk hb; have HG := Aside0.mk (AB.grown (AB.new w 38 (Z16)) hg_ (by simp)); clear ho hb hg_ hnew_))
  refine (sha_join.calls k (fun k => w.heap.size < k) v1 [a0 % 256] A1 c1 l1 t w w1 HB.out HO.out (fun W_ hk => (Kd.heap_slice 5 (Kd.heap_int .u8)).C (fun k hlt => (hk.2 k (by have := HB.out.size; omega) (by omega)).trans (HB.out.block k hlt)) HR.out) HC.out HJ.out).mono ?_
  rintro e w2 ⟨v2, rfl, ho, hb, hk⟩
  have HG2 := Aside0.mk (show AB w2 w.heap.size 38 (Z16) from (hk.2 _ HG.out.lt (by omega)).trans HG.out)
  have HB2 := Aside0.mk hb
  obtain ⟨A2, c2, rfl, hl2, hC2⟩ := Kd.R_reads ho
  have HC2 := Aside0.mk hC2
  clear ho hb hk hC2
  go_wp2_with (fail)
  refine (sum_calls A2 c2 t w2 (HT.out.below HB2.out) HC2.out HL.out).mono ?_
  rintro e w3 ⟨rfl, hb⟩
  have HG3 := Aside0.mk (HG2.out.below hb)
  have HB3 := Aside0.mk (below_then HB2.out HB2.out.size hb)
  clear hb
  go_wp2_with (fail)
  refine (short_calls (sumP t) (sumP_length t) w3).mono ?_
  rintro e w4 ⟨rfl, hb⟩
  have hG4 := HG3.out.below hb
  have HB4 := Aside0.mk (below_then HB3.out HB3.out.size hb)
  clear hb
  have z0 := hG4.cell 0 (by decide)
  have z1 := hG4.cell 1 (by decide)
  have z2 := hG4.cell 2 (by decide)
  have z3 := hG4.cell 3 (by decide)
  have z4 := hG4.cell 4 (by decide)
  have z5 := hG4.cell 5 (by decide)
  have z6 := hG4.cell 6 (by decide)
  have z7 := hG4.cell 7 (by decide)
  have z8 := hG4.cell 8 (by decide)
  have z9 := hG4.cell 9 (by decide)
  have z10 := hG4.cell 10 (by decide)
  have z11 := hG4.cell 11 (by decide)
  have z12 := hG4.cell 12 (by decide)
  have z13 := hG4.cell 13 (by decide)
  have z14 := hG4.cell 14 (by decide)
  have z15 := hG4.cell 15 (by decide)
  have zf := hG4.frozen
  have HG4 := Aside0.mk hG4
  have HHH := HH.out
  simp only [tup16, Prod.mk.injEq] at HHH
  obtain ⟨rfl, rfl, rfl, rfl, rfl, rfl, rfl, rfl, rfl, rfl, rfl, rfl, rfl, rfl, rfl, rfl⟩ := HHH
  clear hG4
  go_wp2_with (fail)
  refine bodyPost_ret (results_cell_row rfl _ _ w.heap.size 38 _ (0, 0) _ rfl (HG4.out.set16 _ _ _ _ _ _ _ _ _ _ _ _ _ _ _ _) Tryd.underlying38 rfl (by kernel_rfl)) rfl ?_
  exact ⟨rfl, (set16_below HB4.out w.heap.size (Nat.le_refl _) _ _ _ _ _ _ _ _ _ _ _ _ _ _ _ _)⟩
end Go.Proofs.YtfdgihdmhdhpcaaDoor.P
