import Derived.Test.YtfdgihdmhdhpcaaDoorProg
import Derived.Below
import Derived.Deep.Draws
import Derived.Deep.AppendLies
import Derived.Maps.AppendAt
import Derived.OwnWalk
import Derived.Laws.BytesArg
import Derived.Laws.MakeOwn
import Derived.Laws.OwnMore
import Derived.Deep.OwnRows
import Derived.Tactics
import Derived.Lib.ConvBytes
import Derived.Laws.Slices
import Derived.WalkKit
import Derived.KernelRfl
import Derived.RowKit3
import Derived.Deep.LoopGhost
import Derived.Deep.QuietTactic
import Derived.BigQuiet
import Derived.WideLaws
import Derived.Deep.DeepCutAuto
import Derived.Deep.CutBlock
import Derived.Deep.RegionHeld3
import Derived.Laws.Rows
import Derived.Lib.AppendStr
import Derived.ArgAppend
import Derived.Laws.IdiomCopy
import Derived.OrdersHeld
import Derived.Laws.BitsLemmas
import Derived.RowKit
import Derived.Test.YtfdgihdmhdhpcaaDoorWWords
import Derived.Test.YtfdgihdmhdhpcaaDoorWLast
import Derived.Test.YtfdgihdmhdhpcaaDoorWTab
import Derived.Test.YtfdgihdmhdhpcaaDoorWFour
import Derived.Test.YtfdgihdmhdhpcaaDoorWQPut
import Derived.Test.YtfdgihdmhdhpcaaDoorWApart
import Derived.Test.YtfdgihdmhdhpcaaDoorWArr
import Derived.Test.YtfdgihdmhdhpcaaDoorWZeros
import Derived.Test.YtfdgihdmhdhpcaaDoorWFoot
import Derived.Test.YtfdgihdmhdhpcaaDoorWKept
import Derived.Test.YtfdgihdmhdhpcaaDoorWShare
import Derived.Test.YtfdgihdmhdhpcaaDoorWN
import Derived.Test.YtfdgihdmhdhpcaaDoorWFootNe
import Derived.Test.YtfdgihdmhdhpcaaDoorWAt
import Derived.Test.YtfdgihdmhdhpcaaDoorWEqStruct
import Derived.Test.YtfdgihdmhdhpcaaDoorWRepsOne
import Derived.Test.YtfdgihdmhdhpcaaDoorWInv
import Derived.Test.YtfdgihdmhdhpcaaDoorWInvWords
import Derived.Test.YtfdgihdmhdhpcaaDoorWGuard
import Derived.Test.YtfdgihdmhdhpcaaDoorWNEv
import Derived.Test.YtfdgihdmhdhpcaaDoorWMore
import Derived.Lib.Hide
import Derived.Outline
import Derived.Recover
import Derived.WalkLawsBesides
import Derived.Laws.Panics
import Derived.Laws.Pointers
import Derived.Tactics2
import Derived.Deep.RegionWith
import Derived.WalkSpells
import Derived.WalkMore
import Derived.Laws.Cover3
import Derived.Deep.MidRow
import Derived.Deep.Upon
import Derived.ChangeKeysEq
import Derived.Test.YtfdgihdmhdhpcaaDoorSB
namespace Go.Proofs.YtfdgihdmhdhpcaaDoor.P
open Go.RowKit Go.Proofs.YtfdgihdmhdhpcaaDoorW.PrintWords Go.Proofs.YtfdgihdmhdhpcaaDoorW.PrintLast Go.Proofs.YtfdgihdmhdhpcaaDoorW.PrintMore
attribute [local go_sem] max2_int min2_int max_two min_two max_three min_three max_four min_four
set_option linter.unusedVariables false
set_option linter.unusedSimpArgs false
set_option maxRecDepth 100000 in
set_option maxHeartbeats 1000000 in
theorem grow_calls (n : Nat) (hn : n < 140737488355328) (w : World) :
    Calls Tryd.prog 76 #[.slice none 0 0, .int .i64 (n : Int)] w fun e w' => ∃ v, e = .returned v ∧ Kd.R (Kd.int .u8) 5 w' w.heap.size (fun _ => True) v [] ∧ Below w.heap.size w w' := by
  go_enter Tryd.func76, Tryd.ntmps76
  by_cases h0 : 0 < n
  · go_wp2_with (((with_reducible refine gate_builtin (b := .append) (xs := #[.tmp 20, .tmp 21]) rfl ?_); at_builtin; go_loud (refine Kd.R_append_zeros (Kd.int .u8) (w0 := w) w.heap.size rfl (.tmp 20) (.tmp 21) 74 3 5 (.int .u8 0) 1 rfl Tryd.underlying74 Tryd.underlying3 info5 rfl (by show 0 < 1; decide) (by omega) (.slice none 0 0) [] 0 (n : Int) (fun _ => True) rfl rfl rfl (fun _ _ => trivial) (Kd.R_nil _ _ _ _ _) (by omega) (Below.refl _ w) (Nat.le_refl _) (by simp; omega) ?_); go_loud (intro v1 w1 ho hb hg hat; (obtain ⟨A1, c1, rfl⟩ := Kd.R_slice ho); have hlen : ([] ++ List.replicate (n : Int).toNat (0 : Int)).length = n := (by simp); rw [hlen] at ho; have HO := Aside0.mk ho; have HB := Aside0.mk hb; have HLEN := Aside0.mk hlen; clear ho hb hg hat hlen)))
    go_ret
    refine ⟨_, rfl, ?_, HB.out⟩
    have h := Kd.R_take (m := 0) HO.out (Nat.zero_le _)
    rw [List.take_zero] at h
    exact h
  · obtain rfl : n = 0 := by omega
    go_wp2_with (fail)
    go_ret
    exact ⟨_, rfl, Kd.R_nil _ _ _ _ _, Below.refl _ _⟩
/-- The lengths of some rows, together. -/
def sumLen (l : List (List Int)) : Nat := (l.map List.length).sum
theorem sumLen_take (l : List (List Int)) (n : Nat) (h : n < l.length) : sumLen (l.take (n + 1)) = sumLen (l.take n) + (rd_L7 l n).length := by
  unfold sumLen
  rw [List.take_succ_eq_append_getElem h, List.map_append, List.sum_append]
  simp [rd_L7, List.getD_eq_getElem?_getD, List.getElem?_eq_getElem h]
theorem flatten_take (l : List (List Int)) (n : Nat) (h : n < l.length) : (l.take (n + 1)).flatten = (l.take n).flatten ++ rd_L7 l n := by
  rw [List.take_succ_eq_append_getElem h, List.flatten_append]
  simp [rd_L7, List.getD_eq_getElem?_getD, List.getElem?_eq_getElem h]
theorem sumLen_le (l : List (List Int)) : ∀ n, sumLen (l.take n) ≤ sumLen l := fun n => by
  unfold sumLen
  conv => rhs; rw [← List.take_append_drop n l, List.map_append, List.sum_append]
  omega
theorem flatten_length (l : List (List Int)) : l.flatten.length = sumLen l := by simp [sumLen, List.length_flatten]
def slices_Concat_byte_byte.f (l0 : List (List Int)) : Option (List Int) := if l0.length < 140737488355328 ∧ sumLen l0 < 140737488355328 then some l0.flatten else none
set_option maxRecDepth 100000 in
set_option maxHeartbeats 1000000 in
theorem slices_Concat_byte_byte.calls (A0 : Option Addr) (c0 : Nat) (l0 : List (List Int)) (r : List Int) (w : World) (hr0 : Kd.C (Kd.slice 5 (Kd.int .u8)) w A0 l0.length l0) (hc0 : l0.length ≤ c0) (h : slices_Concat_byte_byte.f l0 = some r) :
    Calls Tryd.prog 47 #[.slice A0 l0.length c0] w fun e w' => ∃ v0_ : Value, e = .returned (v0_) ∧ Kd.R (Kd.int .u8) 5 w' w.heap.size (fun _ => True) v0_ r ∧ Below w.heap.size w w' := by
  unfold slices_Concat_byte_byte.f at h
  by_cases hh : l0.length < 140737488355328 ∧ sumLen l0 < 140737488355328
  case neg => rw [if_neg hh] at h; cases h
  rw [if_pos hh] at h
  obtain rfl := Option.some.inj h
  have HR := Aside0.mk hr0
  have hN := hh.1
  have HS := Aside0.mk hh.2
  clear hr0 h hh hc0
  go_enter Tryd.func47, Tryd.ntmps47
  go_wp2_with (fail)
  go_loopw [3, 11] (fun v3 v11 W => ∃ n : Nat, n ≤ l0.length ∧ v3 = .int .i64 (sumLen (l0.take n) : Int) ∧ v11 = .int .i64 n ∧ w = W) (fun _ v _ => l0.length - (intOf v).toNat)
  case atStart => exact ⟨0, Nat.zero_le _, rfl, rfl, rfl⟩
  case round =>
    obtain ⟨n, hn, rfl, rfl, rfl⟩ := hrel
    by_cases hlt : n < l0.length
    · obtain ⟨ad, A1, c1, rfl, hx, hl1, hi⟩ := at_L7 HR.out n (by omega) (by omega)
      rw [Int.toNat_natCast] at hx
      have HST := Aside0.mk (sumLen_take l0 n hlt)
      have hs1 := sumLen_le l0 (n + 1)
      have hs2 : sumLen (l0.take n) + (rd_L7 l0 n).length < 140737488355328 := by have := HST.out; have := HS.out; omega
      clear hs1 hl1 hi
      generalize hss : sumLen (l0.take n) = s at HST hs2 ⊢
      generalize hrr : rd_L7 l0 n = y at HST hs2 hx ⊢
      have HSS := Aside0.mk hss
      have HRR := Aside0.mk hrr
      clear hss hrr
      go_wp2_with (fail)
      refine ⟨⟨n + 1, by omega, by rw [HST.out]; go_num, by go_num, trivial⟩, by simp [intOf]; omega⟩
    · obtain rfl : n = l0.length := by omega
      rw [List.take_length]
      have HSS := Aside0.mk (flatten_length l0)
      generalize hsl : sumLen l0 = sl at HS HSS ⊢
      have hsl2 := HS.out
      clear hsl
      go_wp2_with (fail)
      refine (grow_calls sl hsl2 w).mono ?_
      rintro e w1 ⟨v1, rfl, ho, hb⟩
      have HO := Aside0.mk ho
      have HB := Aside0.mk hb
      clear ho hb
      go_wp2_with (fail)
      go_loopw [6, 27] (fun v6 v27 W => ∃ n : Nat, n ≤ l0.length ∧ v27 = .int .i64 n ∧ Below w.heap.size w W ∧ Kd.R (Kd.int .u8) 5 W w.heap.size (fun _ => True) v6 (l0.take n).flatten) (fun _ v _ => l0.length - (intOf v).toNat)
      case atStart => exact ⟨0, Nat.zero_le _, rfl, HB.out, HO.out⟩
      case round =>
        obtain ⟨n, hn, rfl, hbW, hRW⟩ := hrel
        have HBW := Aside0.mk hbW
        have HRW := Aside0.mk hRW
        clear hbW hRW
        by_cases hlt : n < l0.length
        · obtain ⟨ad, A1, c1, rfl, hx, hl1, hi⟩ := at_L7 (Kd.C_below HR.out HBW.out) n (by omega) (by omega)
          rw [Int.toNat_natCast] at hx
          have HFT := Aside0.mk (flatten_take l0 n hlt)
          have hst := sumLen_take l0 n hlt
          have hs1 := sumLen_le l0 (n + 1)
          have HLN := Aside0.mk (show (l0.take n).flatten.length + (rd_L7 l0 n).length < 140737488355328 by rw [flatten_length]; rw [← flatten_length l0, HSS.out] at hs1; omega)
          have HI := Aside0.mk hi
          clear hst hs1 hi
          generalize hrr : rd_L7 l0 n = y at HFT HLN HI hx hl1
          clear hrr
          go_wp2_with (((with_reducible refine gate_builtin (b := .append) (xs := #[.tmp 31, .tmp 32]) rfl ?_); at_builtin; go_loud (refine Kd.R_append_row (Value.int .u8) 0 (h1 := fun _ => rfl) (w0 := w) w.heap.size rfl (.tmp 31) (.tmp 32) 74 5 (.int .u8 0) 1 rfl Tryd.underlying74 info5 rfl (by decide) u6 (l0.take n).flatten y A1 y.length c1 (fun _ => True) rfl rfl (fun _ _ => trivial) HRW.out HI.out HBW.out HBW.out.size (by have := HLN.out; omega) ?_); intro v2 w2 ho hb hg hat; have HR2 := Aside0.mk ho; have HB2 := Aside0.mk hb; clear ho hb hg hat))
          go_roundw
          case rel => exact ⟨n + 1, by omega, by go_num, HB2.out, by rw [HFT.out]; exact HR2.out⟩
          case measure => simp [intOf]; omega
        · obtain rfl : n = l0.length := by omega
          go_wp2_with (fail)
          go_ret
          exact ⟨_, rfl, by have h := HRW.out; rw [List.take_length] at h; exact h, HBW.out⟩
end Go.Proofs.YtfdgihdmhdhpcaaDoor.P
