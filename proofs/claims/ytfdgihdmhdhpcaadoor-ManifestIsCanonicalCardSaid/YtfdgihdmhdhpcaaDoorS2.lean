import Derived.Test.YtfdgihdmhdhpcaaDoorProg
import Derived.Below
import Derived.Deep.Draws
import Derived.Deep.AppendLies
import Derived.Maps.AppendAt
import Derived.OwnWalk
import Derived.Laws.BytesArg
import Derived.Laws.MakeOwn
import Derived.Laws.OwnMore
import Derived.Deep.OwnRows
import Derived.Tactics
import Derived.Lib.ConvBytes
import Derived.Laws.Slices
import Derived.WalkKit
import Derived.KernelRfl
import Derived.RowKit3
import Derived.Deep.LoopGhost
import Derived.Deep.QuietTactic
import Derived.BigQuiet
import Derived.WideLaws
import Derived.Deep.DeepCutAuto
import Derived.Deep.CutBlock
import Derived.Deep.RegionHeld3
import Derived.Laws.Rows
import Derived.Lib.AppendStr
import Derived.ArgAppend
import Derived.Laws.IdiomCopy
import Derived.OrdersHeld
import Derived.Laws.BitsLemmas
import Derived.RowKit
import Derived.Test.YtfdgihdmhdhpcaaDoorWWords
import Derived.Test.YtfdgihdmhdhpcaaDoorWLast
import Derived.Test.YtfdgihdmhdhpcaaDoorWTab
import Derived.Test.YtfdgihdmhdhpcaaDoorWFour
import Derived.Test.YtfdgihdmhdhpcaaDoorWQPut
import Derived.Test.YtfdgihdmhdhpcaaDoorWApart
import Derived.Test.YtfdgihdmhdhpcaaDoorWArr
import Derived.Test.YtfdgihdmhdhpcaaDoorWZeros
import Derived.Test.YtfdgihdmhdhpcaaDoorWFoot
import Derived.Test.YtfdgihdmhdhpcaaDoorWKept
import Derived.Test.YtfdgihdmhdhpcaaDoorWShare
import Derived.Test.YtfdgihdmhdhpcaaDoorWN
import Derived.Test.YtfdgihdmhdhpcaaDoorWFootNe
import Derived.Test.YtfdgihdmhdhpcaaDoorWAt
import Derived.Test.YtfdgihdmhdhpcaaDoorWEqStruct
import Derived.Test.YtfdgihdmhdhpcaaDoorWRepsOne
import Derived.Test.YtfdgihdmhdhpcaaDoorWInv
import Derived.Test.YtfdgihdmhdhpcaaDoorWInvWords
import Derived.Test.YtfdgihdmhdhpcaaDoorWGuard
import Derived.Test.YtfdgihdmhdhpcaaDoorWNEv
import Derived.Test.YtfdgihdmhdhpcaaDoorWMore
import Derived.Lib.Hide
import Derived.Outline
import Derived.Recover
import Derived.WalkLawsBesides
import Derived.Laws.Panics
import Derived.Laws.Pointers
import Derived.Tactics2
import Derived.Deep.RegionWith
import Derived.WalkSpells
import Derived.WalkMore
import Derived.Laws.Cover3
import Derived.Deep.MidRow
import Derived.Test.YtfdgihdmhdhpcaaDoorS1
namespace Go.Proofs.YtfdgihdmhdhpcaaDoor.P
open Go.RowKit Go.Proofs.YtfdgihdmhdhpcaaDoorW.PrintWords Go.Proofs.YtfdgihdmhdhpcaaDoorW.PrintLast Go.Proofs.YtfdgihdmhdhpcaaDoorW.PrintMore
attribute [local go_sem] max2_int min2_int max_two min_two max_three min_three max_four min_four
set_option linter.unusedVariables false
set_option linter.unusedSimpArgs false
def cmp92.T8 : Bool × List (List Nat × List Nat) := (true, [([], []), ([], []), ([1], [1]), ([2], [2]), ([3], [3]), ([], []), ([], []), ([5, 6], [5, 6]), ([], []), ([8], [8]), ([7, 9], [7, 9]), ([4, 10], [4, 10]), ([], []), ([12], [12]), ([13], [13]), ([14], [14]), ([11, 15], [11, 15]), ([], []), ([], []), ([17, 18, 7], [17, 18]), ([], []), ([20], [20]), ([19, 21], [19, 21]), ([16, 22], [16, 22]), ([0, 0, 1, 2, 3, 4, 5, 6, 7, 8, 9, 10, 11, 12, 13, 14, 15, 16, 17, 18, 19, 20, 21, 22, 23], [0]), ([24, 23, 19, 0, 1, 2, 3, 4, 5, 6, 7, 8, 9, 10, 11, 12, 13, 14, 15, 16, 17, 18, 19, 20, 21, 22, 23], [23, 24])])
def cmp92.B8 : List Nat := [0, 0, 2, 6, 14, 0, 0, 96, 0, 256, 992, 2046, 0, 4096, 12288, 28672, 65534, 0, 0, 393440, 0, 1048576, 4063456, 8388606, 16777215, 33554431]
theorem cmp92.tab8 : rtab .any (opsOf Tryd.f92 8) = cmp92.T8 := by kernel_rfl
theorem cmp92.bits8 : waitsOk cmp92.T8.2 cmp92.B8 = true := by kernel_rfl
def cmp92.T14 : Bool × List (List Nat × List Nat) := (true, [([], []), ([0], [0]), ([], []), ([2], [2]), ([], []), ([3, 4], [3, 4]), ([1, 5], [1, 5]), ([], []), ([7], [7]), ([], []), ([9], [9]), ([8, 10], [8, 10]), ([], []), ([12], [12]), ([13], [13]), ([], []), ([15], [15]), ([14, 16], [14, 16]), ([11, 17], [11, 17]), ([6, 18], [6, 18]), ([], []), ([19, 20], [19, 20]), ([], []), ([22], [22]), ([23], [23]), ([21, 24], [21, 24]), ([25, 5, 0, 1, 2, 3, 4, 5, 6, 7, 8, 9, 10, 11, 12, 13, 14, 15, 16, 17, 18, 19, 20, 21, 22, 23, 24, 25], [25])])
def cmp92.B14 : List Nat := [0, 1, 0, 4, 0, 28, 63, 0, 128, 0, 512, 1920, 0, 4096, 12288, 0, 32768, 126976, 262016, 524287, 0, 2097151, 0, 4194304, 12582912, 33554431, 67108863]
theorem cmp92.tab14 : rtab .any (opsOf Tryd.f92 14) = cmp92.T14 := by kernel_rfl
theorem cmp92.bits14 : waitsOk cmp92.T14.2 cmp92.B14 = true := by kernel_rfl
def cmp92.T15 : Bool × List (List Nat × List Nat) := (true, [([], []), ([0], [0]), ([], []), ([1, 2], [1, 2]), ([], []), ([4], [4]), ([], []), ([6], [6]), ([5, 7], [5, 7]), ([], []), ([9], [9]), ([], []), ([11], [11]), ([10, 12], [10, 12]), ([8, 13], [8, 13]), ([], []), ([15], [15]), ([], []), ([17], [17]), ([16, 18], [16, 18]), ([14, 19], [14, 19]), ([3, 20], [3, 20]), ([21, 3, 0, 1, 2, 3, 4, 5, 6, 7, 8, 9, 10, 11, 12, 13, 14, 15, 16, 17, 18, 19, 20, 21], [21])])
def cmp92.B15 : List Nat := [0, 1, 0, 7, 0, 16, 0, 64, 240, 0, 512, 0, 2048, 7680, 16368, 0, 32768, 0, 131072, 491520, 1048560, 2097151, 4194303]
theorem cmp92.tab15 : rtab .any (opsOf Tryd.f92 15) = cmp92.T15 := by kernel_rfl
theorem cmp92.bits15 : waitsOk cmp92.T15.2 cmp92.B15 = true := by kernel_rfl
def cmp92.T21 : Bool × List (List Nat × List Nat) := (true, [([], []), ([0], [0]), ([1], [1]), ([], []), ([3], [3]), ([4], [4]), ([2, 5], [2, 5]), ([0, 0, 1, 2, 3, 4, 5, 6], [0]), ([7, 6, 0, 1, 2, 3, 4, 5, 6], [6, 7])])
def cmp92.B21 : List Nat := [0, 1, 3, 0, 8, 24, 63, 127, 255]
theorem cmp92.tab21 : rtab .any (opsOf Tryd.f92 21) = cmp92.T21 := by kernel_rfl
theorem cmp92.bits21 : waitsOk cmp92.T21.2 cmp92.B21 = true := by kernel_rfl
set_option maxRecDepth 100000 in
set_option maxHeartbeats 4000000 in
theorem compress_calls (h0 h1 h2 h3 h4 h5 h6 h7 : Int) (ad : Addr) (c1 : Nat) (l1 : List Int) (w : World) (htab : TabW w) (hr1 : Kd.C (Kd.int .u8) w (some ad) 64 l1) (hc1 : 64 ≤ c1) :
    Calls Tryd.prog 92 #[.agg #[.int .u32 h0, .int .u32 h1, .int .u32 h2, .int .u32 h3, .int .u32 h4, .int .u32 h5, .int .u32 h6, .int .u32 h7], .slice (some ad) 64 c1] w fun e w' => e = .returned (.agg (nums .u32 (compP ⟨h0, h1, h2, h3, h4, h5, h6, h7⟩ l1)).toArray) ∧ Below w.heap.size w w' := by
  go_enter Tryd.func92, Tryd.ntmps92
  go_wp2_with (fail)
  have hS := CS.start w [h0, h1, h2, h3, h4, h5, h6, h7]
  rw [show (nums .u32 [h0, h1, h2, h3, h4, h5, h6, h7]).toArray = #[.int .u32 h0, .int .u32 h1, .int .u32 h2, .int .u32 h3, .int .u32 h4, .int .u32 h5, .int .u32 h6, .int .u32 h7] from rfl] at hS
  rw [show (nums .u32 (List.replicate 8 0)).toArray = #[.int .u32 0, .int .u32 0, .int .u32 0, .int .u32 0, .int .u32 0, .int .u32 0, .int .u32 0, .int .u32 0] from rfl,
    show (nums .u32 (List.replicate 64 0)).toArray = #[.int .u32 0, .int .u32 0, .int .u32 0, .int .u32 0, .int .u32 0, .int .u32 0, .int .u32 0, .int .u32 0, .int .u32 0, .int .u32 0, .int .u32 0, .int .u32 0, .int .u32 0, .int .u32 0, .int .u32 0, .int .u32 0, .int .u32 0, .int .u32 0, .int .u32 0, .int .u32 0, .int .u32 0, .int .u32 0, .int .u32 0, .int .u32 0, .int .u32 0, .int .u32 0, .int .u32 0, .int .u32 0, .int .u32 0, .int .u32 0, .int .u32 0, .int .u32 0, .int .u32 0, .int .u32 0, .int .u32 0, .int .u32 0, .int .u32 0, .int .u32 0, .int .u32 0, .int .u32 0, .int .u32 0, .int .u32 0, .int .u32 0, .int .u32 0, .int .u32 0, .int .u32 0, .int .u32 0, .int .u32 0, .int .u32 0, .int .u32 0, .int .u32 0, .int .u32 0, .int .u32 0, .int .u32 0, .int .u32 0, .int .u32 0, .int .u32 0, .int .u32 0, .int .u32 0, .int .u32 0, .int .u32 0, .int .u32 0, .int .u32 0, .int .u32 0] from rfl] at hS
  generalize hW0 : World.alloc _ _ = W0 at hS ⊢
  have HS := Lib.hid hS
  have hl : l1.length = 64 := hr1.1
  have HR := Lib.hid hr1
  have HT := Lib.hid htab
  have HLen := Lib.hid hl
  clear hS hW0 hr1 hl htab
  go_loopw [15] (fun v W => ∃ n : Nat, n ≤ 64 ∧ v = .int .i64 n ∧ CS w [h0, h1, h2, h3, h4, h5, h6, h7] (sched l1 n) W) (fun v _ => 64 - (intOf v).toNat)
  case atStart => exact ⟨0, by omega, rfl, HS.out⟩
  case round =>
    obtain ⟨n, hn, rfl, hS⟩ := hrel
    have HS := Lib.hid hS
    clear hS
    by_cases hlt : n < 64
    · by_cases h16 : n < 16
      · have hf := HS.out.x.frozen n
        have hx := HS.out.x.cell n (by rw [sched_length]; omega)
        have hl := HLen.out
        have hC := Kd.C_below HR.out HS.out.b
        have hld := sha_load.calls 6 (some (ad.add (4 * n))) (c1 - 4 * n) ((l1.take (4 * n + 4)).drop (4 * n)) (ldv ((l1.take (4 * n + 4)).drop (4 * n))) wr
          (by have := C_mid (lo := 4 * n) (hi := 4 * n + 4) hC (by omega) (by omega); rwa [show ((l1.take (4 * n + 4)).drop (4 * n)).length = 4 * n + 4 - 4 * n by simp; omega]) (by simp; omega) (load_pure _ (by simp; omega))
        rw [show ((l1.take (4 * n + 4)).drop (4 * n)).length = 4 by simp; omega] at hld
        have HL := Lib.hid hld
        clear hC hld hl
        go_wp2_with (fail)
        refine HL.out.mono ?_
        rintro e w' ⟨rfl, hdr⟩
        have hS2 := HS.out.below hdr.below
        have hf := hS2.x.frozen n
        have hx := hS2.x.cell n (by rw [sched_length]; omega)
        have HS2 := Lib.hid hS2
        clear hS2 hdr HS
        go_wp2_with (fail)
        go_roundw
        case rel =>
          refine ⟨n + 1, by omega, by go_num, ?_⟩
          have := HS2.out.set n (ldv ((l1.take (4 * n + 4)).drop (4 * n)))
          rw [sched, wval, if_pos h16]
          exact this
        case measure => simp [intOf]; omega
      · obtain ⟨m, rfl⟩ : ∃ m, n = m + 16 := ⟨n - 16, by omega⟩
        have hx1 := HS.out.x.cell (m + 1) (by rw [sched_length]; omega)
        have hx14 := HS.out.x.cell (m + 14) (by rw [sched_length]; omega)
        go_wp2_with (fail)
        go_quiet (fail)
        have S := Lib.hid (HS.out.below ((pw_below_drewN (Below.refl _ wr) nq).drew))
        have HW := Lib.hid (sched_length l1 (m + 16))
        clear hx1 hx14 HS
        go_wp2_with (fail)
        generalize hws : sched l1 (m + 16) = ws at S HW ⊢
        have k0 : wrap64 (m : Int) = m := by unfold wrap64; omega
        have k1 : (m : Int) < 64 := by omega
        have k2 : wrap64 ((m : Int) + 16 - 7) = (m : Int) + 16 - 7 := by unfold wrap64; omega
        have k3 : 0 ≤ (m : Int) + 16 - 7 := by omega
        have k4 : (m : Int) + 16 - 7 < 64 := by omega
        have k5 : ((m : Int) + 16 - 7).toNat = m + 9 := by omega
        have k6 : (m : Int) + 16 < 64 := by omega
        have k7 : 0 ≤ (m : Int) + 16 := by omega
        have k8 : ((m : Int) + 16).toNat = m + 16 := by omega
        have k9 : 7 ≤ (m : Int) + 16 := by omega
        refine start_ (n := 26) (S := fun w' => True) (ds := []) #[false, false, false, false, false, false, false, false, false, false, false, false, false, false, false, false, false, false, false, false, false, false, false, false, false, false] (by kernel_rfl) rfl rfl trivial (fun hHeld => ?_)
        refine with_tabW cmp92.tab8 cmp92.bits8 (fun HT_ HW_ => ?_)
        generalize hwd : (wr.drewN nq).drew = w3 at S hHeld ⊢
        clear hwd
        refine pure_ (i := 0) (N := some 38) (v := ?_) (a' := ?_) #[true, false, false, false, false, false, false, false, false, false, false, false, false, false, false, false, false, false, false, false, false, false, false, false, false, false] rfl rfl (any_of HT_.out (by kernel_rfl)) (fun _ _ _ h => h) (Or.inl ⟨by rfl, ?_⟩) ?_ ?_
        rotate_left
        · intro w'
          go_simp
          with_reducible rfl
        rotate_left
        · simp only [Act.put, List.setIfInBounds_toArray, List.set_cons_zero, List.set_cons_succ, i64_w, i32_w]
          rfl
        refine pure_ (i := 1) (N := some 39) (v := ?_) (a' := ?_) #[true, true, false, false, false, false, false, false, false, false, false, false, false, false, false, false, false, false, false, false, false, false, false, false, false, false] rfl rfl (any_of HT_.out (by kernel_rfl)) (fun _ _ _ h => h) (Or.inl ⟨by rfl, ?_⟩) ?_ ?_
        rotate_left
        · intro w'
          go_simp
          with_reducible rfl
        rotate_left
        · simp only [Act.put, List.setIfInBounds_toArray, List.set_cons_zero, List.set_cons_succ, i64_w, i32_w]
          rfl
        refine pure_ (i := 2) (N := some 40) (v := ?_) (a' := ?_) #[true, true, true, false, false, false, false, false, false, false, false, false, false, false, false, false, false, false, false, false, false, false, false, false, false, false] rfl rfl (any_of HT_.out (by kernel_rfl)) (fun _ _ _ h => h) (Or.inl ⟨by rfl, ?_⟩) ?_ ?_
        rotate_left
        · intro w'
          go_simp
          with_reducible rfl
        rotate_left
        · simp only [Act.put, List.setIfInBounds_toArray, List.set_cons_zero, List.set_cons_succ, i64_w, i32_w]
          rfl
        refine pure_ (i := 3) (N := some 41) (v := ?_) (a' := ?_) #[true, true, true, true, false, false, false, false, false, false, false, false, false, false, false, false, false, false, false, false, false, false, false, false, false, false] rfl rfl (any_of HT_.out (by kernel_rfl)) (fun _ _ _ h => h) (Or.inl ⟨by rfl, ?_⟩) ?_ ?_
        rotate_left
        · intro w'
          go_simp
          with_reducible rfl
        rotate_left
        · simp only [Act.put, List.setIfInBounds_toArray, List.set_cons_zero, List.set_cons_succ, i64_w, i32_w]
          rfl
        refine pure_ (i := 5) (N := some 43) (v := ?_) (a' := ?_) #[true, true, true, true, false, true, false, false, false, false, false, false, false, false, false, false, false, false, false, false, false, false, false, false, false, false] rfl rfl (any_of HT_.out (by kernel_rfl)) (fun _ _ _ h => h) (Or.inl ⟨by rfl, ?_⟩) ?_ ?_
        rotate_left
        · intro w'
          go_simp
          with_reducible rfl
        rotate_left
        · simp only [Act.put, List.setIfInBounds_toArray, List.set_cons_zero, List.set_cons_succ, i64_w, i32_w]
          rfl
        refine pure_ (i := 8) (N := some 46) (v := ?_) (a' := ?_) #[true, true, true, true, false, true, false, false, true, false, false, false, false, false, false, false, false, false, false, false, false, false, false, false, false, false] rfl rfl (any_of HT_.out (by kernel_rfl)) (fun _ _ _ h => h) (Or.inl ⟨by rfl, ?_⟩) ?_ ?_
        rotate_left
        · intro w'
          go_simp
          with_reducible rfl
        rotate_left
        · simp only [Act.put, List.setIfInBounds_toArray, List.set_cons_zero, List.set_cons_succ, i64_w, i32_w]
          rfl
        refine pure_ (i := 9) (N := some 47) (v := ?_) (a' := ?_) #[true, true, true, true, false, true, false, false, true, true, false, false, false, false, false, false, false, false, false, false, false, false, false, false, false, false] rfl rfl (any_of HT_.out (by kernel_rfl)) (fun _ _ _ h => h) (Or.inl ⟨by rfl, ?_⟩) ?_ ?_
        rotate_left
        · intro w'
          go_simp
          with_reducible rfl
        rotate_left
        · simp only [Act.put, List.setIfInBounds_toArray, List.set_cons_zero, List.set_cons_succ, i64_w, i32_w]
          rfl
        refine pure_ (i := 12) (N := some 50) (v := ?_) (a' := ?_) #[true, true, true, true, false, true, false, false, true, true, false, false, true, false, false, false, false, false, false, false, false, false, false, false, false, false] rfl rfl (any_of HT_.out (by kernel_rfl)) (fun _ _ _ h => h) (Or.inl ⟨by rfl, ?_⟩) ?_ ?_
        rotate_left
        · intro w'
          go_simp
          with_reducible rfl
        rotate_left
        · simp only [Act.put, List.setIfInBounds_toArray, List.set_cons_zero, List.set_cons_succ, i64_w, i32_w]
          rfl
        refine pure_ (i := 13) (N := some 51) (v := ?_) (a' := ?_) #[true, true, true, true, false, true, false, false, true, true, false, false, true, true, false, false, false, false, false, false, false, false, false, false, false, false] rfl rfl (any_of HT_.out (by kernel_rfl)) (fun _ _ _ h => h) (Or.inl ⟨by rfl, ?_⟩) ?_ ?_
        rotate_left
        · intro w'
          go_simp
          with_reducible rfl
        rotate_left
        · simp only [Act.put, List.setIfInBounds_toArray, List.set_cons_zero, List.set_cons_succ, i64_w, i32_w]
          rfl
        refine pure_ (i := 14) (N := some 52) (v := ?_) (a' := ?_) #[true, true, true, true, false, true, false, false, true, true, false, false, true, true, true, false, false, false, false, false, false, false, false, false, false, false] rfl rfl (any_of HT_.out (by kernel_rfl)) (fun _ _ _ h => h) (Or.inl ⟨by rfl, ?_⟩) ?_ ?_
        rotate_left
        · intro w'
          go_simp
          with_reducible rfl
        rotate_left
        · simp only [Act.put, List.setIfInBounds_toArray, List.set_cons_zero, List.set_cons_succ, i64_w, i32_w]
          rfl
        refine pure_ (i := 17) (N := some 55) (v := ?_) (a' := ?_) #[true, true, true, true, false, true, false, false, true, true, false, false, true, true, true, false, false, true, false, false, false, false, false, false, false, false] rfl rfl (any_of HT_.out (by kernel_rfl)) (fun _ _ _ h => h) (Or.inl ⟨by rfl, ?_⟩) ?_ ?_
        rotate_left
        · intro w'
          go_simp
          with_reducible rfl
        rotate_left
        · simp only [Act.put, List.setIfInBounds_toArray, List.set_cons_zero, List.set_cons_succ, i64_w, i32_w]
          rfl
        refine pure_ (i := 20) (N := some 58) (v := ?_) (a' := ?_) #[true, true, true, true, false, true, false, false, true, true, false, false, true, true, true, false, false, true, false, false, true, false, false, false, false, false] rfl rfl (any_of HT_.out (by kernel_rfl)) (fun _ _ _ h => h) (Or.inl ⟨by rfl, ?_⟩) ?_ ?_
        rotate_left
        · intro w'
          go_simp
          with_reducible rfl
        rotate_left
        · simp only [Act.put, List.setIfInBounds_toArray, List.set_cons_zero, List.set_cons_succ, i64_w, i32_w]
          rfl
        refine pure_ (i := 21) (N := some 59) (v := ?_) (a' := ?_) #[true, true, true, true, false, true, false, false, true, true, false, false, true, true, true, false, false, true, false, false, true, true, false, false, false, false] rfl rfl (any_of HT_.out (by kernel_rfl)) (fun _ _ _ h => h) (Or.inl ⟨by rfl, ?_⟩) ?_ ?_
        rotate_left
        · intro w'
          go_simp
          with_reducible rfl
        rotate_left
        · simp only [Act.put, List.setIfInBounds_toArray, List.set_cons_zero, List.set_cons_succ, i64_w, i32_w]
          rfl
        refine inv_at [4, 6, 7, 10, 11, 15, 16, 18, 19, 22, 23, 24, 25] (fun a0_ b a w' => ∃ (b6 : Nat) (b18 : Nat) (m6_ : Value) (m18_ : Value), a = putSel a0_ b [(4, 42, .int .u32 ((gw ws m))), (6, 44, m6_), (7, 45, .int .u32 (rr2 (gw ws (m + 1)) 7 18)), (10, 48, .int .u32 (Go.bits .xor .u32 (rr2 (gw ws (m + 1)) 7 18) ((gw ws (m + 1)) / 8))), (11, 49, .int .u32 (((gw ws m) + Go.bits .xor .u32 (rr2 (gw ws (m + 1)) 7 18) ((gw ws (m + 1)) / 8)) % 4294967296)), (15, 53, .int .u32 ((gw ws (m + 9)))), (16, 54, .int .u32 (((gw ws m) + Go.bits .xor .u32 (rr2 (gw ws (m + 1)) 7 18) ((gw ws (m + 1)) / 8) + (gw ws (m + 9))) % 4294967296)), (18, 56, m18_), (19, 57, .int .u32 (rr2 (gw ws (m + 14)) 17 19)), (22, 60, .int .u32 (Go.bits .xor .u32 (rr2 (gw ws (m + 14)) 17 19) ((gw ws (m + 14)) / 1024))), (23, 61, .int .u32 (((gw ws m) + Go.bits .xor .u32 (rr2 (gw ws (m + 1)) 7 18) ((gw ws (m + 1)) / 8) + (gw ws (m + 9)) + Go.bits .xor .u32 (rr2 (gw ws (m + 14)) 17 19) ((gw ws (m + 14)) / 1024)) % 4294967296)), (24, 62, .pointer (some ⟨w.heap.size + 1 + 1, m + 16, none⟩))] ∧ (b 25 = false → CS w [h0, h1, h2, h3, h4, h5, h6, h7] ws w') ∧ (b 6 = true → b 25 = false → Kd.C (Kd.int .i64) w' (some ⟨b6, 0, none⟩) 2 [7, 18]) ∧ (b 18 = true → b 25 = false → Kd.C (Kd.int .i64) w' (some ⟨b18, 0, none⟩) 2 [17, 19]) ∧ (b 25 = true → CS w [h0, h1, h2, h3, h4, h5, h6, h7] (ws.set (m + 16) (((gw ws m) + Go.bits .xor .u32 (rr2 (gw ws (m + 1)) 7 18) ((gw ws (m + 1)) / 8) + (gw ws (m + 9)) + Go.bits .xor .u32 (rr2 (gw ws (m + 14)) 17 19) ((gw ws (m + 14)) / 1024)) % 4294967296)) w') ∧ (b 6 = true → (m6_ : Value) = .slice (some ⟨b6, 0, none⟩) 2 2) ∧ (b 18 = true → (m18_ : Value) = .slice (some ⟨b18, 0, none⟩) 2 2)) HT_.out HW_.out (by kernel_rfl) (by kernel_rfl) ?_ ?_ ?_
        · exact ⟨0, 0, .bool false, .bool false, by simp only [putSel, Bool.false_eq_true, if_false], fun _ => S.out, fun h_ => absurd h_ (by decide), fun h_ => absurd h_ (by decide), fun h_ => absurd h_ (by decide), fun h_ => absurd h_ (by decide), fun h_ => absurd h_ (by decide)⟩
        · skip
          clear S
          refine steps_cons ?_ ?_
          · rintro b a w' ⟨b6, b18, m6_, m18_, ha, Q_S, Q_A, Q_B, Q_F, Q_X6_, Q_X18_⟩ hb_ hon hoff
            refine ⟨_, rfl, fun K hK => ?_⟩
            have e41 : a.tmps[41]? = some (.pointer (some ⟨w.heap.size + 1 + 1, m, none⟩)) := by rw [ha]; exact (putSel_off rfl).trans rfl
            replace ha := Aside0.mk ha
            have S := Aside0.mk (Q_S (hoff 25 (by kernel_rfl)))
            have hc4 := S.out.x.cell m (by rw [HW.out]; omega)
            refine value_ (w1 := w') (v := .int .u32 ((gw ws m))) (by rfl) rfl ?_ ?_
            · go_simp
              (try simp only [i64_w, IntKind.wrap_u32])
              try first | rfl | omega
            refine hK.out _ _ ⟨b6, b18, m6_, m18_, (by rw [ha.out]; exact putSel_upk 0 hb_ rfl rfl rfl), Q_S, Q_A, Q_B, fun h0_ => absurd ((hoff 25 (by kernel_rfl)).symm.trans h0_) (by decide), Q_X6_, Q_X18_⟩
          refine steps_cons ?_ ?_
          · rintro b a w' ⟨b6, b18, m6_, m18_, ha, Q_S, Q_A, Q_B, Q_F, Q_X6_, Q_X18_⟩ hb_ hon hoff
            refine ⟨_, rfl, fun K hK => ?_⟩
            replace ha := Aside0.mk ha
            have S := Aside0.mk (Q_S (hoff 25 (by kernel_rfl)))
            refine value_ (w1 := ?_) (v := ?_) (by rfl) rfl ?_ ?_
            rotate_left 2
            · go_simp
              constructor
              · rfl
              · rfl
            refine hK.out _ _ ⟨w'.heap.size, b18, (.slice (some ⟨w'.heap.size, 0, none⟩) 2 2), m18_, (by rw [ha.out]; exact putSel_upk 1 hb_ rfl rfl rfl), fun _ => S.out.below ((Below.refl _ _).alloc (Nat.le_refl _) _), fun _ _ => C_two w' 7 18, fun h0_ h1_ => Kd.C_below (Q_B h0_ h1_) ((Below.refl _ _).alloc (Nat.le_refl _) _), fun h0_ => absurd ((hoff 25 (by kernel_rfl)).symm.trans h0_) (by decide), fun _ => rfl, Q_X18_⟩
          refine steps_cons ?_ ?_
          · rintro b a w' ⟨b6, b18, m6_, m18_, ha, Q_S, Q_A, Q_B, Q_F, Q_X6_, Q_X18_⟩ hb_ hon hoff
            refine ⟨_, rfl, fun K hK => ?_⟩
            have e43 : a.tmps[43]? = some (.int .u32 ((gw ws (m + 1)))) := by rw [ha]; exact (putSel_off rfl).trans rfl
            have e44 : a.tmps[44]? = some (m6_) := by rw [ha]; exact putSel_on (e := (6, 44, m6_)) 1 rfl rfl (hon 6 (by kernel_rfl)) rfl
            rw [Q_X6_ (hon 6 (by kernel_rfl))] at e44
            replace ha := Aside0.mk ha
            have S := Aside0.mk (Q_S (hoff 25 (by kernel_rfl)))
            have A := Aside0.mk (Q_A (hon 6 (by kernel_rfl)) (hoff 25 (by kernel_rfl)))
            refine goes_ Tryd.func103 (by kernel_rfl) rfl #[.int .u32 (gw ws (m + 1)), .slice (some ⟨b6, 0, none⟩) 2 2] (by rfl) rfl rfl (by first | (simp only [List.map_toArray, List.map_cons, List.map_nil, Act.eval, Array.getD_eq_getD_getElem?, Option.getD_some, e43, e44]; done) | (simp only [List.map_toArray, List.map_cons, List.map_nil, Act.eval, Array.getD_eq_getD_getElem?, Option.getD_some, e43, e44]; rfl)) ?_
            refine (sha_rotr.calls 4 (gw ws (m + 1)) (some ⟨b6, 0, none⟩) 2 [7, 18] _ w' A.out (by decide) (rotr2 _ _ _ (by decide) (by decide) (by decide) (by decide))).mono ?_
            rintro e w2 ⟨rfl, hdr⟩
            refine ⟨_, rfl, ?_⟩
            refine hK.out _ _ ⟨b6, b18, m6_, m18_, (by rw [ha.out]; exact putSel_upk 2 hb_ rfl rfl rfl), fun _ => S.out.below hdr.below, fun _ _ => Kd.C_below A.out hdr.below, fun h0_ h1_ => Kd.C_below (Q_B h0_ h1_) hdr.below, fun h0_ => absurd ((hoff 25 (by kernel_rfl)).symm.trans h0_) (by decide), Q_X6_, Q_X18_⟩
          refine steps_cons ?_ ?_
          · rintro b a w' ⟨b6, b18, m6_, m18_, ha, Q_S, Q_A, Q_B, Q_F, Q_X6_, Q_X18_⟩ hb_ hon hoff
            refine ⟨_, rfl, fun K hK => ?_⟩
            have e45 : a.tmps[45]? = some (.int .u32 (rr2 (gw ws (m + 1)) 7 18)) := by rw [ha]; exact putSel_on (e := (7, 45, .int .u32 (rr2 (gw ws (m + 1)) 7 18))) 2 rfl rfl (hon 7 (by kernel_rfl)) rfl
            have e47 : a.tmps[47]? = some (.int .u32 ((gw ws (m + 1)) / 8)) := by rw [ha]; exact (putSel_off rfl).trans rfl
            replace ha := Aside0.mk ha
            have S := Aside0.mk (Q_S (hoff 25 (by kernel_rfl)))
            have A := Aside0.mk (Q_A (hon 6 (by kernel_rfl)) (hoff 25 (by kernel_rfl)))
            refine value_ (w1 := w') (v := .int .u32 (Go.bits .xor .u32 (rr2 (gw ws (m + 1)) 7 18) ((gw ws (m + 1)) / 8))) (by rfl) rfl ?_ ?_
            · go_simp
              (try simp only [i64_w, IntKind.wrap_u32])
              try first | rfl | omega
            refine hK.out _ _ ⟨b6, b18, m6_, m18_, (by rw [ha.out]; exact putSel_upk 3 hb_ rfl rfl rfl), Q_S, Q_A, Q_B, fun h0_ => absurd ((hoff 25 (by kernel_rfl)).symm.trans h0_) (by decide), Q_X6_, Q_X18_⟩
          refine steps_cons ?_ ?_
          · rintro b a w' ⟨b6, b18, m6_, m18_, ha, Q_S, Q_A, Q_B, Q_F, Q_X6_, Q_X18_⟩ hb_ hon hoff
            refine ⟨_, rfl, fun K hK => ?_⟩
            have e42 : a.tmps[42]? = some (.int .u32 ((gw ws m))) := by rw [ha]; exact putSel_on (e := (4, 42, .int .u32 ((gw ws m)))) 0 rfl rfl (hon 4 (by kernel_rfl)) rfl
            have e48 : a.tmps[48]? = some (.int .u32 (Go.bits .xor .u32 (rr2 (gw ws (m + 1)) 7 18) ((gw ws (m + 1)) / 8))) := by rw [ha]; exact putSel_on (e := (10, 48, .int .u32 (Go.bits .xor .u32 (rr2 (gw ws (m + 1)) 7 18) ((gw ws (m + 1)) / 8)))) 3 rfl rfl (hon 10 (by kernel_rfl)) rfl
            replace ha := Aside0.mk ha
            have S := Aside0.mk (Q_S (hoff 25 (by kernel_rfl)))
            have A := Aside0.mk (Q_A (hon 6 (by kernel_rfl)) (hoff 25 (by kernel_rfl)))
            refine value_ (w1 := w') (v := .int .u32 (((gw ws m) + Go.bits .xor .u32 (rr2 (gw ws (m + 1)) 7 18) ((gw ws (m + 1)) / 8)) % 4294967296)) (by rfl) rfl ?_ ?_
            · go_simp
              (try simp only [i64_w, IntKind.wrap_u32])
              try first | rfl | omega
            refine hK.out _ _ ⟨b6, b18, m6_, m18_, (by rw [ha.out]; exact putSel_upk 4 hb_ rfl rfl rfl), Q_S, Q_A, Q_B, fun h0_ => absurd ((hoff 25 (by kernel_rfl)).symm.trans h0_) (by decide), Q_X6_, Q_X18_⟩
          refine steps_cons ?_ ?_
          · rintro b a w' ⟨b6, b18, m6_, m18_, ha, Q_S, Q_A, Q_B, Q_F, Q_X6_, Q_X18_⟩ hb_ hon hoff
            refine ⟨_, rfl, fun K hK => ?_⟩
            have e52 : a.tmps[52]? = some (.pointer (some ⟨w.heap.size + 1 + 1, m + 9, none⟩)) := by rw [ha]; exact (putSel_off rfl).trans rfl
            replace ha := Aside0.mk ha
            have S := Aside0.mk (Q_S (hoff 25 (by kernel_rfl)))
            have hc15 := S.out.x.cell (m + 9) (by rw [HW.out]; omega)
            refine value_ (w1 := w') (v := .int .u32 ((gw ws (m + 9)))) (by rfl) rfl ?_ ?_
            · go_simp
              (try simp only [i64_w, IntKind.wrap_u32])
              try first | rfl | omega
            refine hK.out _ _ ⟨b6, b18, m6_, m18_, (by rw [ha.out]; exact putSel_upk 5 hb_ rfl rfl rfl), Q_S, Q_A, Q_B, fun h0_ => absurd ((hoff 25 (by kernel_rfl)).symm.trans h0_) (by decide), Q_X6_, Q_X18_⟩
          refine steps_cons ?_ ?_
          · rintro b a w' ⟨b6, b18, m6_, m18_, ha, Q_S, Q_A, Q_B, Q_F, Q_X6_, Q_X18_⟩ hb_ hon hoff
            refine ⟨_, rfl, fun K hK => ?_⟩
            have e49 : a.tmps[49]? = some (.int .u32 (((gw ws m) + Go.bits .xor .u32 (rr2 (gw ws (m + 1)) 7 18) ((gw ws (m + 1)) / 8)) % 4294967296)) := by rw [ha]; exact putSel_on (e := (11, 49, .int .u32 (((gw ws m) + Go.bits .xor .u32 (rr2 (gw ws (m + 1)) 7 18) ((gw ws (m + 1)) / 8)) % 4294967296))) 4 rfl rfl (hon 11 (by kernel_rfl)) rfl
            have e53 : a.tmps[53]? = some (.int .u32 ((gw ws (m + 9)))) := by rw [ha]; exact putSel_on (e := (15, 53, .int .u32 ((gw ws (m + 9))))) 5 rfl rfl (hon 15 (by kernel_rfl)) rfl
            replace ha := Aside0.mk ha
            have S := Aside0.mk (Q_S (hoff 25 (by kernel_rfl)))
            have A := Aside0.mk (Q_A (hon 6 (by kernel_rfl)) (hoff 25 (by kernel_rfl)))
            refine value_ (w1 := w') (v := .int .u32 (((gw ws m) + Go.bits .xor .u32 (rr2 (gw ws (m + 1)) 7 18) ((gw ws (m + 1)) / 8) + (gw ws (m + 9))) % 4294967296)) (by rfl) rfl ?_ ?_
            · go_simp
              (try simp only [i64_w, IntKind.wrap_u32])
              try first | rfl | omega
            refine hK.out _ _ ⟨b6, b18, m6_, m18_, (by rw [ha.out]; exact putSel_upk 6 hb_ rfl rfl rfl), Q_S, Q_A, Q_B, fun h0_ => absurd ((hoff 25 (by kernel_rfl)).symm.trans h0_) (by decide), Q_X6_, Q_X18_⟩
          refine steps_cons ?_ ?_
          · rintro b a w' ⟨b6, b18, m6_, m18_, ha, Q_S, Q_A, Q_B, Q_F, Q_X6_, Q_X18_⟩ hb_ hon hoff
            refine ⟨_, rfl, fun K hK => ?_⟩
            replace ha := Aside0.mk ha
            have S := Aside0.mk (Q_S (hoff 25 (by kernel_rfl)))
            refine value_ (w1 := ?_) (v := ?_) (by rfl) rfl ?_ ?_
            rotate_left 2
            · go_simp
              constructor
              · rfl
              · rfl
            refine hK.out _ _ ⟨b6, w'.heap.size, m6_, (.slice (some ⟨w'.heap.size, 0, none⟩) 2 2), (by rw [ha.out]; exact putSel_upk 7 hb_ rfl rfl rfl), fun _ => S.out.below ((Below.refl _ _).alloc (Nat.le_refl _) _), fun h0_ h1_ => Kd.C_below (Q_A h0_ h1_) ((Below.refl _ _).alloc (Nat.le_refl _) _), fun _ _ => C_two w' 17 19, fun h0_ => absurd ((hoff 25 (by kernel_rfl)).symm.trans h0_) (by decide), Q_X6_, fun _ => rfl⟩
          refine steps_cons ?_ ?_
          · rintro b a w' ⟨b6, b18, m6_, m18_, ha, Q_S, Q_A, Q_B, Q_F, Q_X6_, Q_X18_⟩ hb_ hon hoff
            refine ⟨_, rfl, fun K hK => ?_⟩
            have e55 : a.tmps[55]? = some (.int .u32 ((gw ws (m + 14)))) := by rw [ha]; exact (putSel_off rfl).trans rfl
            have e56 : a.tmps[56]? = some (m18_) := by rw [ha]; exact putSel_on (e := (18, 56, m18_)) 7 rfl rfl (hon 18 (by kernel_rfl)) rfl
            rw [Q_X18_ (hon 18 (by kernel_rfl))] at e56
            replace ha := Aside0.mk ha
            have S := Aside0.mk (Q_S (hoff 25 (by kernel_rfl)))
            have A := Aside0.mk (Q_A (hon 6 (by kernel_rfl)) (hoff 25 (by kernel_rfl)))
            have B := Aside0.mk (Q_B (hon 18 (by kernel_rfl)) (hoff 25 (by kernel_rfl)))
            refine goes_ Tryd.func103 (by kernel_rfl) rfl #[.int .u32 (gw ws (m + 14)), .slice (some ⟨b18, 0, none⟩) 2 2] (by rfl) rfl rfl (by first | (simp only [List.map_toArray, List.map_cons, List.map_nil, Act.eval, Array.getD_eq_getD_getElem?, Option.getD_some, e55, e56]; done) | (simp only [List.map_toArray, List.map_cons, List.map_nil, Act.eval, Array.getD_eq_getD_getElem?, Option.getD_some, e55, e56]; rfl)) ?_
            refine (sha_rotr.calls 4 (gw ws (m + 14)) (some ⟨b18, 0, none⟩) 2 [17, 19] _ w' B.out (by decide) (rotr2 _ _ _ (by decide) (by decide) (by decide) (by decide))).mono ?_
            rintro e w2 ⟨rfl, hdr⟩
            refine ⟨_, rfl, ?_⟩
            refine hK.out _ _ ⟨b6, b18, m6_, m18_, (by rw [ha.out]; exact putSel_upk 8 hb_ rfl rfl rfl), fun _ => S.out.below hdr.below, fun _ _ => Kd.C_below A.out hdr.below, fun _ _ => Kd.C_below B.out hdr.below, fun h0_ => absurd ((hoff 25 (by kernel_rfl)).symm.trans h0_) (by decide), Q_X6_, Q_X18_⟩
          refine steps_cons ?_ ?_
          · rintro b a w' ⟨b6, b18, m6_, m18_, ha, Q_S, Q_A, Q_B, Q_F, Q_X6_, Q_X18_⟩ hb_ hon hoff
            refine ⟨_, rfl, fun K hK => ?_⟩
            have e57 : a.tmps[57]? = some (.int .u32 (rr2 (gw ws (m + 14)) 17 19)) := by rw [ha]; exact putSel_on (e := (19, 57, .int .u32 (rr2 (gw ws (m + 14)) 17 19))) 8 rfl rfl (hon 19 (by kernel_rfl)) rfl
            have e59 : a.tmps[59]? = some (.int .u32 ((gw ws (m + 14)) / 1024)) := by rw [ha]; exact (putSel_off rfl).trans rfl
            replace ha := Aside0.mk ha
            have S := Aside0.mk (Q_S (hoff 25 (by kernel_rfl)))
            have A := Aside0.mk (Q_A (hon 6 (by kernel_rfl)) (hoff 25 (by kernel_rfl)))
            have B := Aside0.mk (Q_B (hon 18 (by kernel_rfl)) (hoff 25 (by kernel_rfl)))
            refine value_ (w1 := w') (v := .int .u32 (Go.bits .xor .u32 (rr2 (gw ws (m + 14)) 17 19) ((gw ws (m + 14)) / 1024))) (by rfl) rfl ?_ ?_
            · go_simp
              (try simp only [i64_w, IntKind.wrap_u32])
              try first | rfl | omega
            refine hK.out _ _ ⟨b6, b18, m6_, m18_, (by rw [ha.out]; exact putSel_upk 9 hb_ rfl rfl rfl), Q_S, Q_A, Q_B, fun h0_ => absurd ((hoff 25 (by kernel_rfl)).symm.trans h0_) (by decide), Q_X6_, Q_X18_⟩
          refine steps_cons ?_ ?_
          · rintro b a w' ⟨b6, b18, m6_, m18_, ha, Q_S, Q_A, Q_B, Q_F, Q_X6_, Q_X18_⟩ hb_ hon hoff
            refine ⟨_, rfl, fun K hK => ?_⟩
            have e54 : a.tmps[54]? = some (.int .u32 (((gw ws m) + Go.bits .xor .u32 (rr2 (gw ws (m + 1)) 7 18) ((gw ws (m + 1)) / 8) + (gw ws (m + 9))) % 4294967296)) := by rw [ha]; exact putSel_on (e := (16, 54, .int .u32 (((gw ws m) + Go.bits .xor .u32 (rr2 (gw ws (m + 1)) 7 18) ((gw ws (m + 1)) / 8) + (gw ws (m + 9))) % 4294967296))) 6 rfl rfl (hon 16 (by kernel_rfl)) rfl
            have e60 : a.tmps[60]? = some (.int .u32 (Go.bits .xor .u32 (rr2 (gw ws (m + 14)) 17 19) ((gw ws (m + 14)) / 1024))) := by rw [ha]; exact putSel_on (e := (22, 60, .int .u32 (Go.bits .xor .u32 (rr2 (gw ws (m + 14)) 17 19) ((gw ws (m + 14)) / 1024)))) 9 rfl rfl (hon 22 (by kernel_rfl)) rfl
            replace ha := Aside0.mk ha
            have S := Aside0.mk (Q_S (hoff 25 (by kernel_rfl)))
            have A := Aside0.mk (Q_A (hon 6 (by kernel_rfl)) (hoff 25 (by kernel_rfl)))
            have B := Aside0.mk (Q_B (hon 18 (by kernel_rfl)) (hoff 25 (by kernel_rfl)))
            refine value_ (w1 := w') (v := .int .u32 (((gw ws m) + Go.bits .xor .u32 (rr2 (gw ws (m + 1)) 7 18) ((gw ws (m + 1)) / 8) + (gw ws (m + 9)) + Go.bits .xor .u32 (rr2 (gw ws (m + 14)) 17 19) ((gw ws (m + 14)) / 1024)) % 4294967296)) (by rfl) rfl ?_ ?_
            · go_simp
              (try simp only [i64_w, IntKind.wrap_u32])
              try first | rfl | omega
            refine hK.out _ _ ⟨b6, b18, m6_, m18_, (by rw [ha.out]; exact putSel_upk 10 hb_ rfl rfl rfl), Q_S, Q_A, Q_B, fun h0_ => absurd ((hoff 25 (by kernel_rfl)).symm.trans h0_) (by decide), Q_X6_, Q_X18_⟩
          refine steps_cons ?_ ?_
          · rintro b a w' ⟨b6, b18, m6_, m18_, ha, Q_S, Q_A, Q_B, Q_F, Q_X6_, Q_X18_⟩ hb_ hon hoff
            refine ⟨_, rfl, fun K hK => ?_⟩
            have e5 : a.tmps[5]? = some (.pointer (some ⟨w.heap.size + 1 + 1, 0, none⟩)) := by rw [ha]; exact (putSel_off rfl).trans rfl
            have e38 : a.tmps[38]? = some (.int .i64 ((m + 16 : Nat) : Int)) := by rw [ha]; exact (putSel_off rfl).trans rfl
            replace ha := Aside0.mk ha
            have S := Aside0.mk (Q_S (hoff 25 (by kernel_rfl)))
            have A := Aside0.mk (Q_A (hon 6 (by kernel_rfl)) (hoff 25 (by kernel_rfl)))
            have B := Aside0.mk (Q_B (hon 18 (by kernel_rfl)) (hoff 25 (by kernel_rfl)))
            refine value_ (w1 := w') (v := .pointer (some ⟨w.heap.size + 1 + 1, m + 16, none⟩)) (by rfl) rfl ?_ ?_
            · go_simp
              (try simp only [i64_w, IntKind.wrap_u32])
              try first | rfl | omega
            refine hK.out _ _ ⟨b6, b18, m6_, m18_, (by rw [ha.out]; exact putSel_upk 11 hb_ rfl rfl rfl), Q_S, Q_A, Q_B, fun h0_ => absurd ((hoff 25 (by kernel_rfl)).symm.trans h0_) (by decide), Q_X6_, Q_X18_⟩
          refine steps_cons ?_ ?_
          · rintro b a w' ⟨b6, b18, m6_, m18_, ha, Q_S, Q_A, Q_B, Q_F, Q_X6_, Q_X18_⟩ hb_ hon hoff
            refine ⟨_, rfl, fun K hK => ?_⟩
            have e62 : a.tmps[62]? = some (.pointer (some ⟨w.heap.size + 1 + 1, m + 16, none⟩)) := by rw [ha]; exact putSel_on (e := (24, 62, .pointer (some ⟨w.heap.size + 1 + 1, m + 16, none⟩))) 11 rfl rfl (hon 24 (by kernel_rfl)) rfl
            have e61 : a.tmps[61]? = some (.int .u32 (((gw ws m) + Go.bits .xor .u32 (rr2 (gw ws (m + 1)) 7 18) ((gw ws (m + 1)) / 8) + (gw ws (m + 9)) + Go.bits .xor .u32 (rr2 (gw ws (m + 14)) 17 19) ((gw ws (m + 14)) / 1024)) % 4294967296)) := by rw [ha]; exact putSel_on (e := (23, 61, .int .u32 (((gw ws m) + Go.bits .xor .u32 (rr2 (gw ws (m + 1)) 7 18) ((gw ws (m + 1)) / 8) + (gw ws (m + 9)) + Go.bits .xor .u32 (rr2 (gw ws (m + 14)) 17 19) ((gw ws (m + 14)) / 1024)) % 4294967296))) 10 rfl rfl (hon 23 (by kernel_rfl)) rfl
            replace ha := Aside0.mk ha
            have S := Aside0.mk (Q_S hb_)
            have A := Aside0.mk (Q_A (hon 6 (by kernel_rfl)) hb_)
            have B := Aside0.mk (Q_B (hon 18 (by kernel_rfl)) hb_)
            have hcx := S.out.x.cell (m + 16) (by rw [HW.out]; omega)
            have hfz := S.out.x.frozen (m + 16)
            refine skip_ (w1 := ?_) (by rfl) rfl ?_ ?_
            rotate_left
            · go_simp
              rfl
            refine hK.out _ _ ⟨b6, b18, m6_, m18_, (by rw [ha.out]; exact putSel_none (v := undef) rfl), fun h0_ => absurd ((up_self b 25).symm.trans h0_) (by decide), fun _ h1_ => absurd ((up_self b 25).symm.trans h1_) (by decide), fun _ h1_ => absurd ((up_self b 25).symm.trans h1_) (by decide), fun _ => S.out.set (m + 16) _, Q_X6_, Q_X18_⟩
          exact steps_nil
        rintro b a w9 hall ⟨b6, b18, m6_, m18_, ha, Q_S, Q_A, Q_B, Q_F, Q_X6_, Q_X18_⟩
        clear S
        have hb4_ := hall 4 (by kernel_rfl)
        have hb6_ := hall 6 (by kernel_rfl)
        have hb7_ := hall 7 (by kernel_rfl)
        have hb10_ := hall 10 (by kernel_rfl)
        have hb11_ := hall 11 (by kernel_rfl)
        have hb15_ := hall 15 (by kernel_rfl)
        have hb16_ := hall 16 (by kernel_rfl)
        have hb18_ := hall 18 (by kernel_rfl)
        have hb19_ := hall 19 (by kernel_rfl)
        have hb22_ := hall 22 (by kernel_rfl)
        have hb23_ := hall 23 (by kernel_rfl)
        have hb24_ := hall 24 (by kernel_rfl)
        have hb25_ := hall 25 (by kernel_rfl)
        subst ha
        obtain rfl := Q_X6_ hb6_
        obtain rfl := Q_X18_ hb18_
        simp only [putSel, hb4_, hb6_, hb7_, hb10_, hb11_, hb15_, hb16_, hb18_, hb19_, hb22_, hb23_, hb24_, hb25_, if_true, Act.put, List.setIfInBounds_toArray, List.set_cons_zero, List.set_cons_succ]
        clear Q_S
        clear Q_A
        clear Q_B
        have F := Aside0.mk (Q_F hb25_)
        clear Q_F
        clear hall hb4_ hb6_ hb7_ hb10_ hb11_ hb15_ hb16_ hb18_ hb19_ hb22_ hb23_ hb24_ hb25_
        clear k0 k1 k2 k3 k4 k5 k6 k7 k8 k9
        go_wp2_with (fail)
        go_roundw
        case rel =>
          refine ⟨m + 16 + 1, by omega, by go_num, ?_⟩
          have h := F.out
          rw [← hws] at h
          rw [sched, wval, if_neg h16]
          exact h
        case measure => simp [intOf]; omega
    · obtain rfl : n = 64 := by omega
      have q0 := HS.out.h.cell 0 (by simp)
      have q1 := HS.out.h.cell 1 (by simp)
      have q2 := HS.out.h.cell 2 (by simp)
      have q3 := HS.out.h.cell 3 (by simp)
      have q4 := HS.out.h.cell 4 (by simp)
      have q5 := HS.out.h.cell 5 (by simp)
      have q6 := HS.out.h.cell 6 (by simp)
      have q7 := HS.out.h.cell 7 (by simp)
      have hV := CV.start HS.out [gw [h0, h1, h2, h3, h4, h5, h6, h7] 0, gw [h0, h1, h2, h3, h4, h5, h6, h7] 1, gw [h0, h1, h2, h3, h4, h5, h6, h7] 2, gw [h0, h1, h2, h3, h4, h5, h6, h7] 3, gw [h0, h1, h2, h3, h4, h5, h6, h7] 4, gw [h0, h1, h2, h3, h4, h5, h6, h7] 5, gw [h0, h1, h2, h3, h4, h5, h6, h7] 6, gw [h0, h1, h2, h3, h4, h5, h6, h7] 7]
      rw [show (nums .u32 [gw [h0, h1, h2, h3, h4, h5, h6, h7] 0, gw [h0, h1, h2, h3, h4, h5, h6, h7] 1, gw [h0, h1, h2, h3, h4, h5, h6, h7] 2, gw [h0, h1, h2, h3, h4, h5, h6, h7] 3, gw [h0, h1, h2, h3, h4, h5, h6, h7] 4, gw [h0, h1, h2, h3, h4, h5, h6, h7] 5, gw [h0, h1, h2, h3, h4, h5, h6, h7] 6, gw [h0, h1, h2, h3, h4, h5, h6, h7] 7]).toArray = #[.int .u32 (gw [h0, h1, h2, h3, h4, h5, h6, h7] 0), .int .u32 (gw [h0, h1, h2, h3, h4, h5, h6, h7] 1), .int .u32 (gw [h0, h1, h2, h3, h4, h5, h6, h7] 2), .int .u32 (gw [h0, h1, h2, h3, h4, h5, h6, h7] 3), .int .u32 (gw [h0, h1, h2, h3, h4, h5, h6, h7] 4), .int .u32 (gw [h0, h1, h2, h3, h4, h5, h6, h7] 5), .int .u32 (gw [h0, h1, h2, h3, h4, h5, h6, h7] 6), .int .u32 (gw [h0, h1, h2, h3, h4, h5, h6, h7] 7)] from rfl] at hV
      have HV := Aside0.mk hV
      clear hV
      go_upto_region 11 with (fail)
      clear q0 q1 q2 q3 q4 q5 q6 q7
      generalize hW2 : World.alloc _ _ = W2 at HV ⊢
      generalize hb9 : wr.heap.size = b9 at HV ⊢
      clear hW2
      have hrg := (HT.out.below HV.out.s.b).rangeK
      refine wp_region_lit ?_
      refine wpList_load_mid (P := Tryd.prog) ?_ 151 (.global 1) ?_ 1 0 ?_ (nums .u32 KK) _ hrg Tryd.underlying151 rfl (by kernel_rfl) ?_
      · rfl
      · rfl
      · rfl
      clear hrg
      generalize hKA : (nums .u32 KK).toArray = KA
      have HKA := Aside0.mk hKA
      clear hKA
      go_wp2_with (fail)
      have HW := Aside0.mk (sched_length l1 64)
      clear HS
      generalize hws : sched l1 64 = ws at HV HW
      have HWS := Aside0.mk hws
      clear hws
      go_loopw [66] (fun v W => ∃ n : Nat, n ≤ 64 ∧ v = .int .i64 n ∧ CV w [h0, h1, h2, h3, h4, h5, h6, h7] ws (rounds ws ⟨h0, h1, h2, h3, h4, h5, h6, h7⟩ n).l b9 W) (fun v _ => 64 - (intOf v).toNat)
      case atStart => exact ⟨0, by omega, rfl, HV.out⟩
      case round =>
        obtain ⟨n, hn2, rfl, hV⟩ := hrel
        have HV := Aside0.mk hV
        clear hV
        by_cases hlt2 : n < 64
        · generalize hv : rounds ws ⟨h0, h1, h2, h3, h4, h5, h6, h7⟩ n = v at HV
          have HVV := Aside0.mk hv
          clear hv
          have hx := HV.out.s.x.cell n (by rw [HW.out]; omega)
          have hix : KA[n]? = some (.int .u32 (gw KK n)) := by
            rw [← HKA.out]
            simp [nums, gw, List.getElem?_eq_getElem (show n < KK.length from hlt2)]
          generalize hkn : gw KK n = kn at hix
          have HKN := Aside0.mk hkn
          clear hkn
          go_upto_region 13 with (fail)
          refine wp_region_lit ?_
          refine wpList_move ?_ (.tmp 66) ?_ (.int .i64 (n : Int)) ?_ ?_
          · rfl
          · rfl
          · rfl
          refine wpList_index ?_ 151 (.tmp 65) (.tmp 66) ?_ KA (n : Int) (.int .u32 kn) ?_ ?_ (run_index_arr Tryd.underlying151 (by kernel_rfl) Tryd.underlying135 hlt2 hix) ?_
          · rfl
          · rfl
          · rfl
          · rfl
          clear hix
          go_wp2_with (fail)
          refine start_ (n := 27) (S := fun w' => CV w [h0, h1, h2, h3, h4, h5, h6, h7] ws v.l b9 w') (ds := []) #[false, false, false, false, false, false, false, false, false, false, false, false, false, false, false, false, false, false, false, false, false, false, false, false, false, false, false] (by kernel_rfl) rfl rfl (HV.out.below (Below.refl _ _).drew) (fun hHeld => ?_)
          refine with_tabW cmp92.tab14 cmp92.bits14 (fun HT_ HW_ => ?_)
          generalize hwd : World.drew _ = w3 at hHeld ⊢
          clear hwd
          refine pure_ (i := 0) (N := some 70) (v := ?_) (a' := ?_) #[true, false, false, false, false, false, false, false, false, false, false, false, false, false, false, false, false, false, false, false, false, false, false, false, false, false, false] rfl rfl (any_of HT_.out (by kernel_rfl)) (fun _ _ _ h => h) (Or.inl ⟨by rfl, ?_⟩) ?_ ?_
          rotate_left
          · intro w'
            go_simp
            first | done | (with_reducible rfl)
          rotate_left
          · simp only [Act.put, List.setIfInBounds_toArray, List.set_cons_zero, List.set_cons_succ, i64_w, i32_w]
            rfl
          refine pure_ (i := 2) (N := some 72) (v := ?_) (a' := ?_) #[true, false, true, false, false, false, false, false, false, false, false, false, false, false, false, false, false, false, false, false, false, false, false, false, false, false, false] rfl rfl (any_of HT_.out (by kernel_rfl)) (fun _ _ _ h => h) (Or.inl ⟨by rfl, ?_⟩) ?_ ?_
          rotate_left
          · intro w'
            go_simp
            first | done | (with_reducible rfl)
          rotate_left
          · simp only [Act.put, List.setIfInBounds_toArray, List.set_cons_zero, List.set_cons_succ, i64_w, i32_w]
            rfl
          refine pure_ (i := 7) (N := some 77) (v := ?_) (a' := ?_) #[true, false, true, false, false, false, false, true, false, false, false, false, false, false, false, false, false, false, false, false, false, false, false, false, false, false, false] rfl rfl (any_of HT_.out (by kernel_rfl)) (fun _ _ _ h => h) (Or.inl ⟨by rfl, ?_⟩) ?_ ?_
          rotate_left
          · intro w'
            go_simp
            first | done | (with_reducible rfl)
          rotate_left
          · simp only [Act.put, List.setIfInBounds_toArray, List.set_cons_zero, List.set_cons_succ, i64_w, i32_w]
            rfl
          refine pure_ (i := 9) (N := some 79) (v := ?_) (a' := ?_) #[true, false, true, false, false, false, false, true, false, true, false, false, false, false, false, false, false, false, false, false, false, false, false, false, false, false, false] rfl rfl (any_of HT_.out (by kernel_rfl)) (fun _ _ _ h => h) (Or.inl ⟨by rfl, ?_⟩) ?_ ?_
          rotate_left
          · intro w'
            go_simp
            first | done | (with_reducible rfl)
          rotate_left
          · simp only [Act.put, List.setIfInBounds_toArray, List.set_cons_zero, List.set_cons_succ, i64_w, i32_w]
            rfl
          refine pure_ (i := 12) (N := some 82) (v := ?_) (a' := ?_) #[true, false, true, false, false, false, false, true, false, true, false, false, true, false, false, false, false, false, false, false, false, false, false, false, false, false, false] rfl rfl (any_of HT_.out (by kernel_rfl)) (fun _ _ _ h => h) (Or.inl ⟨by rfl, ?_⟩) ?_ ?_
          rotate_left
          · intro w'
            go_simp
            first | done | (with_reducible rfl)
          rotate_left
          · simp only [Act.put, List.setIfInBounds_toArray, List.set_cons_zero, List.set_cons_succ, i64_w, i32_w]
            rfl
          refine pure_ (i := 15) (N := some 85) (v := ?_) (a' := ?_) #[true, false, true, false, false, false, false, true, false, true, false, false, true, false, false, true, false, false, false, false, false, false, false, false, false, false, false] rfl rfl (any_of HT_.out (by kernel_rfl)) (fun _ _ _ h => h) (Or.inl ⟨by rfl, ?_⟩) ?_ ?_
          rotate_left
          · intro w'
            go_simp
            first | done | (with_reducible rfl)
          rotate_left
          · simp only [Act.put, List.setIfInBounds_toArray, List.set_cons_zero, List.set_cons_succ, i64_w, i32_w]
            rfl
          refine pure_ (i := 20) (N := some 90) (v := ?_) (a' := ?_) #[true, false, true, false, false, false, false, true, false, true, false, false, true, false, false, true, false, false, false, false, true, false, false, false, false, false, false] rfl rfl (any_of HT_.out (by kernel_rfl)) (fun _ _ _ h => h) (Or.inl ⟨by rfl, ?_⟩) ?_ ?_
          rotate_left
          · intro w'
            go_simp
            first | done | (with_reducible rfl)
          rotate_left
          · simp only [Act.put, List.setIfInBounds_toArray, List.set_cons_zero, List.set_cons_succ, i64_w, i32_w]
            rfl
          refine pure_ (i := 22) (N := some 92) (v := ?_) (a' := ?_) #[true, false, true, false, false, false, false, true, false, true, false, false, true, false, false, true, false, false, false, false, true, false, true, false, false, false, false] rfl rfl (any_of HT_.out (by kernel_rfl)) (fun _ _ _ h => h) (Or.inl ⟨by rfl, ?_⟩) ?_ ?_
          rotate_left
          · intro w'
            go_simp
            first | done | (with_reducible rfl)
          rotate_left
          · simp only [Act.put, List.setIfInBounds_toArray, List.set_cons_zero, List.set_cons_succ, i64_w, i32_w]
            rfl
          refine pure_ (i := 23) (N := some 93) (v := ?_) (a' := ?_) #[true, false, true, false, false, false, false, true, false, true, false, false, true, false, false, true, false, false, false, false, true, false, true, true, false, false, false] rfl rfl (any_of HT_.out (by kernel_rfl)) (fun _ _ _ h => h) (Or.inl ⟨by rfl, ?_⟩) ?_ ?_
          rotate_left
          · intro w'
            go_simp
            first | done | (with_reducible rfl)
          rotate_left
          · simp only [Act.put, List.setIfInBounds_toArray, List.set_cons_zero, List.set_cons_succ, i64_w, i32_w]
            rfl
          refine take_ (i := 1) (N := some 71) (v := ?_) (a' := ?_) #[true, true, true, false, false, false, false, true, false, true, false, false, true, false, false, true, false, false, false, false, true, false, true, true, false, false, false] rfl rfl (take_ofW HT_.out HW_.out (by kernel_rfl)) (fun _ _ _ h => h) (Or.inl ⟨by rfl, ?_⟩) hHeld ?_ ?_
          rotate_left
          · rintro w' hh
            have q_ : w'.cell? ⟨b9, 7, none⟩ = some (.int .u32 v.h) := hh.v.cell 7 (by simp [V8.l]); go_simp
            first | done | (with_reducible rfl)
          rotate_left
          · simp only [Act.put, List.setIfInBounds_toArray, List.set_cons_zero, List.set_cons_succ, i64_w, i32_w]
            rfl
          refine take_ (i := 3) (N := some 73) (v := ?_) (a' := ?_) #[true, true, true, true, false, false, false, true, false, true, false, false, true, false, false, true, false, false, false, false, true, false, true, true, false, false, false] rfl rfl (take_ofW HT_.out HW_.out (by kernel_rfl)) (fun _ _ _ h => h) (Or.inl ⟨by rfl, ?_⟩) hHeld ?_ ?_
          rotate_left
          · rintro w' hh
            have q_ : w'.cell? ⟨b9, 4, none⟩ = some (.int .u32 v.e) := hh.v.cell 4 (by simp [V8.l]); go_simp
            first | done | (with_reducible rfl)
          rotate_left
          · simp only [Act.put, List.setIfInBounds_toArray, List.set_cons_zero, List.set_cons_succ, i64_w, i32_w]
            rfl
          refine take_ (i := 8) (N := some 78) (v := ?_) (a' := ?_) #[true, true, true, true, false, false, false, true, true, true, false, false, true, false, false, true, false, false, false, false, true, false, true, true, false, false, false] rfl rfl (take_ofW HT_.out HW_.out (by kernel_rfl)) (fun _ _ _ h => h) (Or.inl ⟨by rfl, ?_⟩) hHeld ?_ ?_
          rotate_left
          · rintro w' hh
            have q_ : w'.cell? ⟨b9, 4, none⟩ = some (.int .u32 v.e) := hh.v.cell 4 (by simp [V8.l]); go_simp
            first | done | (with_reducible rfl)
          rotate_left
          · simp only [Act.put, List.setIfInBounds_toArray, List.set_cons_zero, List.set_cons_succ, i64_w, i32_w]
            rfl
          refine take_ (i := 10) (N := some 80) (v := ?_) (a' := ?_) #[true, true, true, true, false, false, false, true, true, true, true, false, true, false, false, true, false, false, false, false, true, false, true, true, false, false, false] rfl rfl (take_ofW HT_.out HW_.out (by kernel_rfl)) (fun _ _ _ h => h) (Or.inl ⟨by rfl, ?_⟩) hHeld ?_ ?_
          rotate_left
          · rintro w' hh
            have q_ : w'.cell? ⟨b9, 5, none⟩ = some (.int .u32 v.f) := hh.v.cell 5 (by simp [V8.l]); go_simp
            first | done | (with_reducible rfl)
          rotate_left
          · simp only [Act.put, List.setIfInBounds_toArray, List.set_cons_zero, List.set_cons_succ, i64_w, i32_w]
            rfl
          refine take_ (i := 13) (N := some 83) (v := ?_) (a' := ?_) #[true, true, true, true, false, false, false, true, true, true, true, false, true, true, false, true, false, false, false, false, true, false, true, true, false, false, false] rfl rfl (take_ofW HT_.out HW_.out (by kernel_rfl)) (fun _ _ _ h => h) (Or.inl ⟨by rfl, ?_⟩) hHeld ?_ ?_
          rotate_left
          · rintro w' hh
            have q_ : w'.cell? ⟨b9, 4, none⟩ = some (.int .u32 v.e) := hh.v.cell 4 (by simp [V8.l]); go_simp
            first | done | (with_reducible rfl)
          rotate_left
          · simp only [Act.put, List.setIfInBounds_toArray, List.set_cons_zero, List.set_cons_succ, i64_w, i32_w]
            rfl
          refine take_ (i := 16) (N := some 86) (v := ?_) (a' := ?_) #[true, true, true, true, false, false, false, true, true, true, true, false, true, true, false, true, true, false, false, false, true, false, true, true, false, false, false] rfl rfl (take_ofW HT_.out HW_.out (by kernel_rfl)) (fun _ _ _ h => h) (Or.inl ⟨by rfl, ?_⟩) hHeld ?_ ?_
          rotate_left
          · rintro w' hh
            have q_ : w'.cell? ⟨b9, 6, none⟩ = some (.int .u32 v.g) := hh.v.cell 6 (by simp [V8.l]); go_simp
            first | done | (with_reducible rfl)
          rotate_left
          · simp only [Act.put, List.setIfInBounds_toArray, List.set_cons_zero, List.set_cons_succ, i64_w, i32_w]
            rfl
          refine take_ (i := 24) (N := some 94) (v := ?_) (a' := ?_) #[true, true, true, true, false, false, false, true, true, true, true, false, true, true, false, true, true, false, false, false, true, false, true, true, true, false, false] rfl rfl (take_ofW HT_.out HW_.out (by kernel_rfl)) (fun _ _ _ h => h) (Or.inl ⟨by rfl, ?_⟩) hHeld ?_ ?_
          rotate_left
          · rintro w' hh
            have q_ : w'.cell? ⟨w.heap.size + 1 + 1, n, none⟩ = some (.int .u32 (gw ws n)) := hh.s.x.cell n (by rw [HW.out]; exact hlt2); go_simp
            first | done | (with_reducible rfl)
          rotate_left
          · simp only [Act.put, List.setIfInBounds_toArray, List.set_cons_zero, List.set_cons_succ, i64_w, i32_w]
            rfl
          refine pure_ (i := 11) (N := some 81) (v := ?_) (a' := ?_) #[true, true, true, true, false, false, false, true, true, true, true, true, true, true, false, true, true, false, false, false, true, false, true, true, true, false, false] rfl rfl (any_of HT_.out (by kernel_rfl)) (fun _ _ _ h => h) (Or.inl ⟨by rfl, ?_⟩) ?_ ?_
          rotate_left
          · intro w'
            go_simp
            first | done | (with_reducible rfl)
          rotate_left
          · simp only [Act.put, List.setIfInBounds_toArray, List.set_cons_zero, List.set_cons_succ, i64_w, i32_w]
            rfl
          refine pure_ (i := 14) (N := some 84) (v := ?_) (a' := ?_) #[true, true, true, true, false, false, false, true, true, true, true, true, true, true, true, true, true, false, false, false, true, false, true, true, true, false, false] rfl rfl (any_of HT_.out (by kernel_rfl)) (fun _ _ _ h => h) (Or.inl ⟨by rfl, ?_⟩) ?_ ?_
          rotate_left
          · intro w'
            go_simp
            first | done | (with_reducible rfl)
          rotate_left
          · simp only [Act.put, List.setIfInBounds_toArray, List.set_cons_zero, List.set_cons_succ, i64_w, i32_w]
            rfl
          refine pure_ (i := 17) (N := some 87) (v := ?_) (a' := ?_) #[true, true, true, true, false, false, false, true, true, true, true, true, true, true, true, true, true, true, false, false, true, false, true, true, true, false, false] rfl rfl (any_of HT_.out (by kernel_rfl)) (fun _ _ _ h => h) (Or.inl ⟨by rfl, ?_⟩) ?_ ?_
          rotate_left
          · intro w'
            go_simp
            first | done | (with_reducible rfl)
          rotate_left
          · simp only [Act.put, List.setIfInBounds_toArray, List.set_cons_zero, List.set_cons_succ, i64_w, i32_w]
            rfl
          refine pure_ (i := 18) (N := some 88) (v := ?_) (a' := ?_) #[true, true, true, true, false, false, false, true, true, true, true, true, true, true, true, true, true, true, true, false, true, false, true, true, true, false, false] rfl rfl (any_of HT_.out (by kernel_rfl)) (fun _ _ _ h => h) (Or.inl ⟨by rfl, ?_⟩) ?_ ?_
          rotate_left
          · intro w'
            go_simp
            first | done | (with_reducible rfl)
          rotate_left
          · simp only [Act.put, List.setIfInBounds_toArray, List.set_cons_zero, List.set_cons_succ, i64_w, i32_w]
            rfl
          refine one_ (i := 4) (N := some 74) #[true, true, true, true, true, false, false, true, true, true, true, true, true, true, true, true, true, true, true, false, true, false, true, true, true, false, false] rfl rfl (one_of HT_.out (by kernel_rfl)) (by decide) (fun K hK => ?_)
          refine value_ (w1 := ?_) (v := ?_) (by rfl) rfl ?_ ?_
          rotate_left 2
          · go_simp
            constructor
            · rfl
            · rfl
          refine hK.out _ _ (hHeld.below ((Below.refl _ _).alloc (Nat.le_refl _) _)) (fun hHeld => ?_)
          clear hK K
          refine norm_ (a' := ?_) ?_ ?_
          rotate_left
          · show Act.put _ (some 74) _ = _
            simp only [Act.put, List.setIfInBounds_toArray, List.set_cons_zero, List.set_cons_succ, i64_w, i32_w]
            rfl
          have HQ := Aside0.mk (C_three w3 6 11 25)
          generalize hbq : w3.heap.size = bq at HQ ⊢
          clear hbq
          generalize hwd : World.alloc _ _ = w31 at hHeld HQ ⊢
          clear hwd
          refine one_ (i := 5) (N := some 75) #[true, true, true, true, true, true, false, true, true, true, true, true, true, true, true, true, true, true, true, false, true, false, true, true, true, false, false] rfl rfl (one_of HT_.out (by kernel_rfl)) (by decide) (fun K hK => ?_)
          refine goes_ Tryd.func103 (by kernel_rfl) rfl #[.int .u32 v.e, .slice (some ⟨bq, 0, none⟩) 3 3] (by rfl) rfl rfl (by (try simp only [List.map_toArray, List.map_cons, List.map_nil]); first | done | rfl) ?_
          refine (sha_rotr.calls 5 v.e (some ⟨bq, 0, none⟩) 3 [6, 11, 25] _ _ HQ.out (by decide) (rotr3 _ _ _ _ (by decide) (by decide) (by decide) (by decide) (by decide) (by decide))).mono ?_
          rintro e w32 ⟨rfl, hdr⟩
          refine ⟨_, rfl, ?_⟩
          refine hK.out _ _ (hHeld.below hdr.below) (fun hHeld => ?_)
          clear hK K
          refine norm_ (a' := ?_) ?_ ?_
          rotate_left
          · show Act.put _ (some 75) _ = _
            simp only [Act.put, List.setIfInBounds_toArray, List.set_cons_zero, List.set_cons_succ, i64_w, i32_w]
            rfl
          clear hdr HQ
          refine pure_ (i := 6) (N := some 76) (v := ?_) (a' := ?_) #[true, true, true, true, true, true, true, true, true, true, true, true, true, true, true, true, true, true, true, false, true, false, true, true, true, false, false] rfl rfl (any_of HT_.out (by kernel_rfl)) (fun _ _ _ h => h) (Or.inl ⟨by rfl, ?_⟩) ?_ ?_
          rotate_left
          · intro w'
            go_simp
            first | done | (with_reducible rfl)
          rotate_left
          · simp only [Act.put, List.setIfInBounds_toArray, List.set_cons_zero, List.set_cons_succ, i64_w, i32_w]
            rfl
          refine pure_ (i := 19) (N := some 89) (v := ?_) (a' := ?_) #[true, true, true, true, true, true, true, true, true, true, true, true, true, true, true, true, true, true, true, true, true, false, true, true, true, false, false] rfl rfl (any_of HT_.out (by kernel_rfl)) (fun _ _ _ h => h) (Or.inl ⟨by rfl, ?_⟩) ?_ ?_
          rotate_left
          · intro w'
            go_simp
            first | done | (with_reducible rfl)
          rotate_left
          · simp only [Act.put, List.setIfInBounds_toArray, List.set_cons_zero, List.set_cons_succ, i64_w, i32_w]
            rfl
          refine pure_ (i := 21) (N := some 91) (v := ?_) (a' := ?_) #[true, true, true, true, true, true, true, true, true, true, true, true, true, true, true, true, true, true, true, true, true, true, true, true, true, false, false] rfl rfl (any_of HT_.out (by kernel_rfl)) (fun _ _ _ h => h) (Or.inl ⟨by rfl, ?_⟩) ?_ ?_
          rotate_left
          · intro w'
            go_simp
            first | done | (with_reducible rfl)
          rotate_left
          · simp only [Act.put, List.setIfInBounds_toArray, List.set_cons_zero, List.set_cons_succ, i64_w, i32_w]
            rfl
          refine pure_ (i := 25) (N := some 95) (v := ?_) (a' := ?_) #[true, true, true, true, true, true, true, true, true, true, true, true, true, true, true, true, true, true, true, true, true, true, true, true, true, true, false] rfl rfl (any_of HT_.out (by kernel_rfl)) (fun _ _ _ h => h) (Or.inl ⟨by rfl, ?_⟩) ?_ ?_
          rotate_left
          · intro w'
            go_simp
            first | done | (with_reducible rfl)
          rotate_left
          · simp only [Act.put, List.setIfInBounds_toArray, List.set_cons_zero, List.set_cons_succ, i64_w, i32_w]
            rfl
          refine pure_ (i := 26) (N := some 12) (v := ?_) (a' := ?_) #[true, true, true, true, true, true, true, true, true, true, true, true, true, true, true, true, true, true, true, true, true, true, true, true, true, true, true] rfl rfl (any_of HT_.out (by kernel_rfl)) (fun _ _ _ h => h) (Or.inl ⟨by rfl, ?_⟩) ?_ ?_
          rotate_left
          · intro w'
            go_simp
            first | done | (with_reducible rfl)
          rotate_left
          · simp only [Act.put, List.setIfInBounds_toArray, List.set_cons_zero, List.set_cons_succ, i64_w, i32_w]
            rfl
          refine done_ (done_of HT_.out (by kernel_rfl)) ?_
          go_wp2_with (fail)
          refine start_ (n := 23) (S := fun w' => CV w [h0, h1, h2, h3, h4, h5, h6, h7] ws v.l b9 w') (ds := []) #[false, false, false, false, false, false, false, false, false, false, false, false, false, false, false, false, false, false, false, false, false, false, false] (by kernel_rfl) rfl rfl (hHeld.below (Below.refl _ _).drew) (fun hHeld => ?_)
          refine with_tabW cmp92.tab15 cmp92.bits15 (fun HT_ HW_ => ?_)
          generalize hwd : World.drew _ = w4 at hHeld ⊢
          clear hwd
          refine pure_ (i := 0) (N := some 96) (v := ?_) (a' := ?_) #[true, false, false, false, false, false, false, false, false, false, false, false, false, false, false, false, false, false, false, false, false, false, false] rfl rfl (any_of HT_.out (by kernel_rfl)) (fun _ _ _ h => h) (Or.inl ⟨by rfl, ?_⟩) ?_ ?_
          rotate_left
          · intro w'
            go_simp
            first | done | (with_reducible rfl)
          rotate_left
          · simp only [Act.put, List.setIfInBounds_toArray, List.set_cons_zero, List.set_cons_succ, i64_w, i32_w]
            rfl
          refine pure_ (i := 4) (N := some 100) (v := ?_) (a' := ?_) #[true, false, false, false, true, false, false, false, false, false, false, false, false, false, false, false, false, false, false, false, false, false, false] rfl rfl (any_of HT_.out (by kernel_rfl)) (fun _ _ _ h => h) (Or.inl ⟨by rfl, ?_⟩) ?_ ?_
          rotate_left
          · intro w'
            go_simp
            first | done | (with_reducible rfl)
          rotate_left
          · simp only [Act.put, List.setIfInBounds_toArray, List.set_cons_zero, List.set_cons_succ, i64_w, i32_w]
            rfl
          refine pure_ (i := 6) (N := some 102) (v := ?_) (a' := ?_) #[true, false, false, false, true, false, true, false, false, false, false, false, false, false, false, false, false, false, false, false, false, false, false] rfl rfl (any_of HT_.out (by kernel_rfl)) (fun _ _ _ h => h) (Or.inl ⟨by rfl, ?_⟩) ?_ ?_
          rotate_left
          · intro w'
            go_simp
            first | done | (with_reducible rfl)
          rotate_left
          · simp only [Act.put, List.setIfInBounds_toArray, List.set_cons_zero, List.set_cons_succ, i64_w, i32_w]
            rfl
          refine pure_ (i := 9) (N := some 105) (v := ?_) (a' := ?_) #[true, false, false, false, true, false, true, false, false, true, false, false, false, false, false, false, false, false, false, false, false, false, false] rfl rfl (any_of HT_.out (by kernel_rfl)) (fun _ _ _ h => h) (Or.inl ⟨by rfl, ?_⟩) ?_ ?_
          rotate_left
          · intro w'
            go_simp
            first | done | (with_reducible rfl)
          rotate_left
          · simp only [Act.put, List.setIfInBounds_toArray, List.set_cons_zero, List.set_cons_succ, i64_w, i32_w]
            rfl
          refine pure_ (i := 11) (N := some 107) (v := ?_) (a' := ?_) #[true, false, false, false, true, false, true, false, false, true, false, true, false, false, false, false, false, false, false, false, false, false, false] rfl rfl (any_of HT_.out (by kernel_rfl)) (fun _ _ _ h => h) (Or.inl ⟨by rfl, ?_⟩) ?_ ?_
          rotate_left
          · intro w'
            go_simp
            first | done | (with_reducible rfl)
          rotate_left
          · simp only [Act.put, List.setIfInBounds_toArray, List.set_cons_zero, List.set_cons_succ, i64_w, i32_w]
            rfl
          refine pure_ (i := 15) (N := some 111) (v := ?_) (a' := ?_) #[true, false, false, false, true, false, true, false, false, true, false, true, false, false, false, true, false, false, false, false, false, false, false] rfl rfl (any_of HT_.out (by kernel_rfl)) (fun _ _ _ h => h) (Or.inl ⟨by rfl, ?_⟩) ?_ ?_
          rotate_left
          · intro w'
            go_simp
            first | done | (with_reducible rfl)
          rotate_left
          · simp only [Act.put, List.setIfInBounds_toArray, List.set_cons_zero, List.set_cons_succ, i64_w, i32_w]
            rfl
          refine pure_ (i := 17) (N := some 113) (v := ?_) (a' := ?_) #[true, false, false, false, true, false, true, false, false, true, false, true, false, false, false, true, false, true, false, false, false, false, false] rfl rfl (any_of HT_.out (by kernel_rfl)) (fun _ _ _ h => h) (Or.inl ⟨by rfl, ?_⟩) ?_ ?_
          rotate_left
          · intro w'
            go_simp
            first | done | (with_reducible rfl)
          rotate_left
          · simp only [Act.put, List.setIfInBounds_toArray, List.set_cons_zero, List.set_cons_succ, i64_w, i32_w]
            rfl
          refine take_ (i := 1) (N := some 97) (v := ?_) (a' := ?_) #[true, true, false, false, true, false, true, false, false, true, false, true, false, false, false, true, false, true, false, false, false, false, false] rfl rfl (take_ofW HT_.out HW_.out (by kernel_rfl)) (fun _ _ _ h => h) (Or.inl ⟨by rfl, ?_⟩) hHeld ?_ ?_
          rotate_left
          · rintro w' hh
            have q_ : w'.cell? ⟨b9, 0, none⟩ = some (.int .u32 v.a) := hh.v.cell 0 (by simp [V8.l]); go_simp
            first | done | (with_reducible rfl)
          rotate_left
          · simp only [Act.put, List.setIfInBounds_toArray, List.set_cons_zero, List.set_cons_succ, i64_w, i32_w]
            rfl
          refine take_ (i := 5) (N := some 101) (v := ?_) (a' := ?_) #[true, true, false, false, true, true, true, false, false, true, false, true, false, false, false, true, false, true, false, false, false, false, false] rfl rfl (take_ofW HT_.out HW_.out (by kernel_rfl)) (fun _ _ _ h => h) (Or.inl ⟨by rfl, ?_⟩) hHeld ?_ ?_
          rotate_left
          · rintro w' hh
            have q_ : w'.cell? ⟨b9, 0, none⟩ = some (.int .u32 v.a) := hh.v.cell 0 (by simp [V8.l]); go_simp
            first | done | (with_reducible rfl)
          rotate_left
          · simp only [Act.put, List.setIfInBounds_toArray, List.set_cons_zero, List.set_cons_succ, i64_w, i32_w]
            rfl
          refine take_ (i := 7) (N := some 103) (v := ?_) (a' := ?_) #[true, true, false, false, true, true, true, true, false, true, false, true, false, false, false, true, false, true, false, false, false, false, false] rfl rfl (take_ofW HT_.out HW_.out (by kernel_rfl)) (fun _ _ _ h => h) (Or.inl ⟨by rfl, ?_⟩) hHeld ?_ ?_
          rotate_left
          · rintro w' hh
            have q_ : w'.cell? ⟨b9, 1, none⟩ = some (.int .u32 v.b) := hh.v.cell 1 (by simp [V8.l]); go_simp
            first | done | (with_reducible rfl)
          rotate_left
          · simp only [Act.put, List.setIfInBounds_toArray, List.set_cons_zero, List.set_cons_succ, i64_w, i32_w]
            rfl
          refine take_ (i := 10) (N := some 106) (v := ?_) (a' := ?_) #[true, true, false, false, true, true, true, true, false, true, true, true, false, false, false, true, false, true, false, false, false, false, false] rfl rfl (take_ofW HT_.out HW_.out (by kernel_rfl)) (fun _ _ _ h => h) (Or.inl ⟨by rfl, ?_⟩) hHeld ?_ ?_
          rotate_left
          · rintro w' hh
            have q_ : w'.cell? ⟨b9, 0, none⟩ = some (.int .u32 v.a) := hh.v.cell 0 (by simp [V8.l]); go_simp
            first | done | (with_reducible rfl)
          rotate_left
          · simp only [Act.put, List.setIfInBounds_toArray, List.set_cons_zero, List.set_cons_succ, i64_w, i32_w]
            rfl
          refine take_ (i := 12) (N := some 108) (v := ?_) (a' := ?_) #[true, true, false, false, true, true, true, true, false, true, true, true, true, false, false, true, false, true, false, false, false, false, false] rfl rfl (take_ofW HT_.out HW_.out (by kernel_rfl)) (fun _ _ _ h => h) (Or.inl ⟨by rfl, ?_⟩) hHeld ?_ ?_
          rotate_left
          · rintro w' hh
            have q_ : w'.cell? ⟨b9, 2, none⟩ = some (.int .u32 v.c) := hh.v.cell 2 (by simp [V8.l]); go_simp
            first | done | (with_reducible rfl)
          rotate_left
          · simp only [Act.put, List.setIfInBounds_toArray, List.set_cons_zero, List.set_cons_succ, i64_w, i32_w]
            rfl
          refine take_ (i := 16) (N := some 112) (v := ?_) (a' := ?_) #[true, true, false, false, true, true, true, true, false, true, true, true, true, false, false, true, true, true, false, false, false, false, false] rfl rfl (take_ofW HT_.out HW_.out (by kernel_rfl)) (fun _ _ _ h => h) (Or.inl ⟨by rfl, ?_⟩) hHeld ?_ ?_
          rotate_left
          · rintro w' hh
            have q_ : w'.cell? ⟨b9, 1, none⟩ = some (.int .u32 v.b) := hh.v.cell 1 (by simp [V8.l]); go_simp
            first | done | (with_reducible rfl)
          rotate_left
          · simp only [Act.put, List.setIfInBounds_toArray, List.set_cons_zero, List.set_cons_succ, i64_w, i32_w]
            rfl
          refine take_ (i := 18) (N := some 114) (v := ?_) (a' := ?_) #[true, true, false, false, true, true, true, true, false, true, true, true, true, false, false, true, true, true, true, false, false, false, false] rfl rfl (take_ofW HT_.out HW_.out (by kernel_rfl)) (fun _ _ _ h => h) (Or.inl ⟨by rfl, ?_⟩) hHeld ?_ ?_
          rotate_left
          · rintro w' hh
            have q_ : w'.cell? ⟨b9, 2, none⟩ = some (.int .u32 v.c) := hh.v.cell 2 (by simp [V8.l]); go_simp
            first | done | (with_reducible rfl)
          rotate_left
          · simp only [Act.put, List.setIfInBounds_toArray, List.set_cons_zero, List.set_cons_succ, i64_w, i32_w]
            rfl
          refine pure_ (i := 8) (N := some 104) (v := ?_) (a' := ?_) #[true, true, false, false, true, true, true, true, true, true, true, true, true, false, false, true, true, true, true, false, false, false, false] rfl rfl (any_of HT_.out (by kernel_rfl)) (fun _ _ _ h => h) (Or.inl ⟨by rfl, ?_⟩) ?_ ?_
          rotate_left
          · intro w'
            go_simp
            first | done | (with_reducible rfl)
          rotate_left
          · simp only [Act.put, List.setIfInBounds_toArray, List.set_cons_zero, List.set_cons_succ, i64_w, i32_w]
            rfl
          refine pure_ (i := 13) (N := some 109) (v := ?_) (a' := ?_) #[true, true, false, false, true, true, true, true, true, true, true, true, true, true, false, true, true, true, true, false, false, false, false] rfl rfl (any_of HT_.out (by kernel_rfl)) (fun _ _ _ h => h) (Or.inl ⟨by rfl, ?_⟩) ?_ ?_
          rotate_left
          · intro w'
            go_simp
            first | done | (with_reducible rfl)
          rotate_left
          · simp only [Act.put, List.setIfInBounds_toArray, List.set_cons_zero, List.set_cons_succ, i64_w, i32_w]
            rfl
          refine pure_ (i := 14) (N := some 110) (v := ?_) (a' := ?_) #[true, true, false, false, true, true, true, true, true, true, true, true, true, true, true, true, true, true, true, false, false, false, false] rfl rfl (any_of HT_.out (by kernel_rfl)) (fun _ _ _ h => h) (Or.inl ⟨by rfl, ?_⟩) ?_ ?_
          rotate_left
          · intro w'
            go_simp
            first | done | (with_reducible rfl)
          rotate_left
          · simp only [Act.put, List.setIfInBounds_toArray, List.set_cons_zero, List.set_cons_succ, i64_w, i32_w]
            rfl
          refine pure_ (i := 19) (N := some 115) (v := ?_) (a' := ?_) #[true, true, false, false, true, true, true, true, true, true, true, true, true, true, true, true, true, true, true, true, false, false, false] rfl rfl (any_of HT_.out (by kernel_rfl)) (fun _ _ _ h => h) (Or.inl ⟨by rfl, ?_⟩) ?_ ?_
          rotate_left
          · intro w'
            go_simp
            first | done | (with_reducible rfl)
          rotate_left
          · simp only [Act.put, List.setIfInBounds_toArray, List.set_cons_zero, List.set_cons_succ, i64_w, i32_w]
            rfl
          refine pure_ (i := 20) (N := some 116) (v := ?_) (a' := ?_) #[true, true, false, false, true, true, true, true, true, true, true, true, true, true, true, true, true, true, true, true, true, false, false] rfl rfl (any_of HT_.out (by kernel_rfl)) (fun _ _ _ h => h) (Or.inl ⟨by rfl, ?_⟩) ?_ ?_
          rotate_left
          · intro w'
            go_simp
            first | done | (with_reducible rfl)
          rotate_left
          · simp only [Act.put, List.setIfInBounds_toArray, List.set_cons_zero, List.set_cons_succ, i64_w, i32_w]
            rfl
          refine one_ (i := 2) (N := some 98) #[true, true, true, false, true, true, true, true, true, true, true, true, true, true, true, true, true, true, true, true, true, false, false] rfl rfl (one_of HT_.out (by kernel_rfl)) (by decide) (fun K hK => ?_)
          refine value_ (w1 := ?_) (v := ?_) (by rfl) rfl ?_ ?_
          rotate_left 2
          · go_simp
            constructor
            · rfl
            · rfl
          refine hK.out _ _ (hHeld.below ((Below.refl _ _).alloc (Nat.le_refl _) _)) (fun hHeld => ?_)
          clear hK K
          refine norm_ (a' := ?_) ?_ ?_
          rotate_left
          · show Act.put _ (some 98) _ = _
            simp only [Act.put, List.setIfInBounds_toArray, List.set_cons_zero, List.set_cons_succ, i64_w, i32_w]
            rfl
          have HQ := Aside0.mk (C_three w4 2 13 22)
          generalize hbq : w4.heap.size = bq at HQ ⊢
          clear hbq
          generalize hwd : World.alloc _ _ = w41 at hHeld HQ ⊢
          clear hwd
          refine one_ (i := 3) (N := some 99) #[true, true, true, true, true, true, true, true, true, true, true, true, true, true, true, true, true, true, true, true, true, false, false] rfl rfl (one_of HT_.out (by kernel_rfl)) (by decide) (fun K hK => ?_)
          refine goes_ Tryd.func103 (by kernel_rfl) rfl #[.int .u32 v.a, .slice (some ⟨bq, 0, none⟩) 3 3] (by rfl) rfl rfl (by (try simp only [List.map_toArray, List.map_cons, List.map_nil]); first | done | rfl) ?_
          refine (sha_rotr.calls 5 v.a (some ⟨bq, 0, none⟩) 3 [2, 13, 22] _ _ HQ.out (by decide) (rotr3 _ _ _ _ (by decide) (by decide) (by decide) (by decide) (by decide) (by decide))).mono ?_
          rintro e w5 ⟨rfl, hdr⟩
          refine ⟨_, rfl, ?_⟩
          refine hK.out _ _ (hHeld.below hdr.below) (fun hHeld => ?_)
          clear hK K
          refine norm_ (a' := ?_) ?_ ?_
          rotate_left
          · show Act.put _ (some 99) _ = _
            simp only [Act.put, List.setIfInBounds_toArray, List.set_cons_zero, List.set_cons_succ, i64_w, i32_w]
            rfl
          clear hdr HQ
          refine pure_ (i := 21) (N := some 117) (v := ?_) (a' := ?_) #[true, true, true, true, true, true, true, true, true, true, true, true, true, true, true, true, true, true, true, true, true, true, false] rfl rfl (any_of HT_.out (by kernel_rfl)) (fun _ _ _ h => h) (Or.inl ⟨by rfl, ?_⟩) ?_ ?_
          rotate_left
          · intro w'
            go_simp
            first | done | (with_reducible rfl)
          rotate_left
          · simp only [Act.put, List.setIfInBounds_toArray, List.set_cons_zero, List.set_cons_succ, i64_w, i32_w]
            rfl
          refine pure_ (i := 22) (N := some 13) (v := ?_) (a' := ?_) #[true, true, true, true, true, true, true, true, true, true, true, true, true, true, true, true, true, true, true, true, true, true, true] rfl rfl (any_of HT_.out (by kernel_rfl)) (fun _ _ _ h => h) (Or.inl ⟨by rfl, ?_⟩) ?_ ?_
          rotate_left
          · intro w'
            go_simp
            first | done | (with_reducible rfl)
          rotate_left
          · simp only [Act.put, List.setIfInBounds_toArray, List.set_cons_zero, List.set_cons_succ, i64_w, i32_w]
            rfl
          refine done_ (done_of HT_.out (by kernel_rfl)) ?_
          have HV2 := Aside0.mk hHeld
          clear hHeld HV
          have z0 : w5.cell? ⟨b9, 0, none⟩ = some (.int .u32 v.a) := HV2.out.v.cell 0 (by simp [V8.l])
          have z1 : w5.cell? ⟨b9, 1, none⟩ = some (.int .u32 v.b) := HV2.out.v.cell 1 (by simp [V8.l])
          have z2 : w5.cell? ⟨b9, 2, none⟩ = some (.int .u32 v.c) := HV2.out.v.cell 2 (by simp [V8.l])
          have z3 : w5.cell? ⟨b9, 3, none⟩ = some (.int .u32 v.d) := HV2.out.v.cell 3 (by simp [V8.l])
          have z4 : w5.cell? ⟨b9, 4, none⟩ = some (.int .u32 v.e) := HV2.out.v.cell 4 (by simp [V8.l])
          have z5 : w5.cell? ⟨b9, 5, none⟩ = some (.int .u32 v.f) := HV2.out.v.cell 5 (by simp [V8.l])
          have z6 : w5.cell? ⟨b9, 6, none⟩ = some (.int .u32 v.g) := HV2.out.v.cell 6 (by simp [V8.l])
          have z7 : w5.cell? ⟨b9, 7, none⟩ = some (.int .u32 v.h) := HV2.out.v.cell 7 (by simp [V8.l])
          have zf := HV2.out.v.frozen
          go_wp2_with (fail)
          refine ⟨⟨n + 1, by omega, by go_num, ?_⟩, by simp [intOf]; omega⟩
          rw [rounds, HVV.out, HKN.out]
          exact CV.set8 HV2.out _ _ _ _ _ _ _ _
        · obtain rfl : n = 64 := by omega
          go_wp2_with (fail)
          have HVL := Aside0.mk (show (rounds ws ⟨h0, h1, h2, h3, h4, h5, h6, h7⟩ 64).l.length = 8 from rfl)
          generalize hvs : (rounds ws ⟨h0, h1, h2, h3, h4, h5, h6, h7⟩ 64).l = vs at HV HVL
          have HVS := Aside0.mk hvs
          clear hvs
          go_loopw [139] (fun v W => ∃ n : Nat, n ≤ 8 ∧ v = .int .i64 n ∧ CV w [h0, h1, h2, h3, h4, h5, h6, h7] ws (vadd [h0, h1, h2, h3, h4, h5, h6, h7] vs n) b9 W) (fun v _ => 8 - (intOf v).toNat)
          case atStart => exact ⟨0, by omega, rfl, HV.out⟩
          case round =>
            obtain ⟨n, hn3, rfl, hV⟩ := hrel
            have HV := Aside0.mk hV
            clear hV
            have HXL := Aside0.mk ((vadd_length [h0, h1, h2, h3, h4, h5, h6, h7] vs n).trans HVL.out)
            by_cases hlt3 : n < 8
            · generalize hxs : vadd [h0, h1, h2, h3, h4, h5, h6, h7] vs n = xs at HV HXL
              have HXS := Aside0.mk hxs
              clear hxs
              go_wp2_with (fail)
              refine start_ (n := 9) (S := fun w' => CV w [h0, h1, h2, h3, h4, h5, h6, h7] ws xs b9 w') (ds := [8]) #[false, false, false, false, false, false, false, false, false] (by kernel_rfl) rfl rfl (HV.out.below (Below.refl _ _).drew) (fun hHeld => ?_)
              refine with_tabW cmp92.tab21 cmp92.bits21 (fun HT_ HW_ => ?_)
              generalize hwd : World.drew _ = w6 at hHeld ⊢
              clear hwd
              refine pure_ (i := 0) (N := some 142) (v := ?_) (a' := ?_) #[true, false, false, false, false, false, false, false, false] rfl rfl (any_of HT_.out (by kernel_rfl)) (fun _ _ _ h => h) (Or.inl ⟨by rfl, ?_⟩) ?_ ?_
              rotate_left
              · intro w'
                go_simp
                first | done | (with_reducible rfl)
              rotate_left
              · simp only [Act.put, List.setIfInBounds_toArray, List.set_cons_zero, List.set_cons_succ, i64_w, i32_w]
                rfl
              refine pure_ (i := 1) (N := some 143) (v := ?_) (a' := ?_) #[true, true, false, false, false, false, false, false, false] rfl rfl (any_of HT_.out (by kernel_rfl)) (fun _ _ _ h => h) (Or.inl ⟨by rfl, ?_⟩) ?_ ?_
              rotate_left
              · intro w'
                go_simp
                first | done | (with_reducible rfl)
              rotate_left
              · simp only [Act.put, List.setIfInBounds_toArray, List.set_cons_zero, List.set_cons_succ, i64_w, i32_w]
                rfl
              refine take_ (i := 2) (N := some 144) (v := ?_) (a' := ?_) #[true, true, true, false, false, false, false, false, false] rfl rfl (take_ofW HT_.out HW_.out (by kernel_rfl)) (fun _ _ _ h => h) (Or.inl ⟨by rfl, ?_⟩) hHeld ?_ ?_
              rotate_left
              · rintro w' hh
                have q_ := hh.v.cell n (by rw [HXL.out]; exact hlt3); go_simp
                first | done | (with_reducible rfl)
              rotate_left
              · simp only [Act.put, List.setIfInBounds_toArray, List.set_cons_zero, List.set_cons_succ, i64_w, i32_w]
                rfl
              refine pure_ (i := 3) (N := some 145) (v := ?_) (a' := ?_) #[true, true, true, true, false, false, false, false, false] rfl rfl (any_of HT_.out (by kernel_rfl)) (fun _ _ _ h => h) (Or.inl ⟨by rfl, ?_⟩) ?_ ?_
              rotate_left
              · intro w'
                go_simp
                first | done | (with_reducible rfl)
              rotate_left
              · simp only [Act.put, List.setIfInBounds_toArray, List.set_cons_zero, List.set_cons_succ, i64_w, i32_w]
                rfl
              refine pure_ (i := 4) (N := some 146) (v := ?_) (a' := ?_) #[true, true, true, true, true, false, false, false, false] rfl rfl (any_of HT_.out (by kernel_rfl)) (fun _ _ _ h => h) (Or.inl ⟨by rfl, ?_⟩) ?_ ?_
              rotate_left
              · intro w'
                go_simp
                first | done | (with_reducible rfl)
              rotate_left
              · simp only [Act.put, List.setIfInBounds_toArray, List.set_cons_zero, List.set_cons_succ, i64_w, i32_w]
                rfl
              refine take_ (i := 5) (N := some 147) (v := ?_) (a' := ?_) #[true, true, true, true, true, true, false, false, false] rfl rfl (take_ofW HT_.out HW_.out (by kernel_rfl)) (fun _ _ _ h => h) (Or.inl ⟨by rfl, ?_⟩) hHeld ?_ ?_
              rotate_left
              · rintro w' hh
                have q_ := hh.s.h.cell n (by simpa using hlt3); go_simp
                first | done | (with_reducible rfl)
              rotate_left
              · simp only [Act.put, List.setIfInBounds_toArray, List.set_cons_zero, List.set_cons_succ, i64_w, i32_w]
                rfl
              refine pure_ (i := 6) (N := some 148) (v := ?_) (a' := ?_) #[true, true, true, true, true, true, true, false, false] rfl rfl (any_of HT_.out (by kernel_rfl)) (fun _ _ _ h => h) (Or.inl ⟨by rfl, ?_⟩) ?_ ?_
              rotate_left
              · intro w'
                go_simp
                first | done | (with_reducible rfl)
              rotate_left
              · simp only [Act.put, List.setIfInBounds_toArray, List.set_cons_zero, List.set_cons_succ, i64_w, i32_w]
                rfl
              refine pure_ (i := 7) (N := some 149) (v := ?_) (a' := ?_) #[true, true, true, true, true, true, true, true, false] rfl rfl (any_of HT_.out (by kernel_rfl)) (fun _ _ _ h => h) (Or.inl ⟨by rfl, ?_⟩) ?_ ?_
              rotate_left
              · intro w'
                go_simp
                first | done | (with_reducible rfl)
              rotate_left
              · simp only [Act.put, List.setIfInBounds_toArray, List.set_cons_zero, List.set_cons_succ, i64_w, i32_w]
                rfl
              have q_ := hHeld.v.cell n (by rw [HXL.out]; exact hlt3)
              have qf_ := hHeld.v.frozen n
              refine last_ (i := 8) (N := none) #[true, true, true, true, true, true, true, true, true] rfl rfl (one_of HT_.out (by kernel_rfl)) (by decide) (fun K hK => ?_)
              refine skip_ (w1 := ?_) (by rfl) rfl ?_ ?_
              rotate_left
              · go_simp
                rfl
              refine hK.out _ _ ?_
              clear hK K
              refine done_ (done_of HT_.out (by kernel_rfl)) ?_
              have HV3 := Aside0.mk hHeld
              clear hHeld q_ qf_ HV
              go_wp2_with (fail)
              refine ⟨⟨n + 1, by omega, by go_num, ?_⟩, by simp [intOf]; omega⟩
              rw [vadd, HXS.out]
              exact HV3.out.set n _
            · obtain rfl : n = 8 := by omega
              generalize hxs : vadd [h0, h1, h2, h3, h4, h5, h6, h7] vs 8 = xs at HV HXL
              have HXS := Aside0.mk hxs
              clear hxs
              have p0 := HV.out.v.cell 0 (by rw [HXL.out]; decide)
              have p1 := HV.out.v.cell 1 (by rw [HXL.out]; decide)
              have p2 := HV.out.v.cell 2 (by rw [HXL.out]; decide)
              have p3 := HV.out.v.cell 3 (by rw [HXL.out]; decide)
              have p4 := HV.out.v.cell 4 (by rw [HXL.out]; decide)
              have p5 := HV.out.v.cell 5 (by rw [HXL.out]; decide)
              have p6 := HV.out.v.cell 6 (by rw [HXL.out]; decide)
              have p7 := HV.out.v.cell 7 (by rw [HXL.out]; decide)
              have r0 := HV.out.s.r.cell 0 (by decide)
              have r1 := HV.out.s.r.cell 1 (by decide)
              have r2 := HV.out.s.r.cell 2 (by decide)
              have r3 := HV.out.s.r.cell 3 (by decide)
              have r4 := HV.out.s.r.cell 4 (by decide)
              have r5 := HV.out.s.r.cell 5 (by decide)
              have r6 := HV.out.s.r.cell 6 (by decide)
              have r7 := HV.out.s.r.cell 7 (by decide)
              have rf := HV.out.s.r.frozen
              have HBL := Aside0.mk (((((((((HV.out.s.b.setCell (p := ⟨w.heap.size + 1, 0, none⟩) (by simp) (.int .u32 (gw xs 0))).setCell (p := ⟨w.heap.size + 1, 1, none⟩) (by simp) (.int .u32 (gw xs 1))).setCell (p := ⟨w.heap.size + 1, 2, none⟩) (by simp) (.int .u32 (gw xs 2))).setCell (p := ⟨w.heap.size + 1, 3, none⟩) (by simp) (.int .u32 (gw xs 3))).setCell (p := ⟨w.heap.size + 1, 4, none⟩) (by simp) (.int .u32 (gw xs 4))).setCell (p := ⟨w.heap.size + 1, 5, none⟩) (by simp) (.int .u32 (gw xs 5))).setCell (p := ⟨w.heap.size + 1, 6, none⟩) (by simp) (.int .u32 (gw xs 6))).setCell (p := ⟨w.heap.size + 1, 7, none⟩) (by simp) (.int .u32 (gw xs 7))))
              go_wp2_with (fail)
              refine bodyPost_ret (results_cell_row rfl _ _ (w.heap.size + 1) 137 _ (0, 0) _ rfl (HV.out.s.r.set8 _ _ _ _ _ _ _ _) Tryd.underlying137 rfl (by kernel_rfl)) rfl ?_
              refine ⟨?_, HBL.out⟩
              rw [compP, HWS.out, HVS.out]
              show Ending.returned _ = Ending.returned (.agg (nums .u32 (vadd [h0, h1, h2, h3, h4, h5, h6, h7] vs 8)).toArray)
              rw [HXS.out, nums8 HXL.out]
end Go.Proofs.YtfdgihdmhdhpcaaDoor.P
