/- Some small texts of the machine's walk, in one. -/
import Derived.Test.YtfdgihdmhdhpcaaDoorProg
import Derived.Below
import Derived.Deep.Draws
import Derived.Deep.AppendLies
import Derived.Maps.AppendAt
import Derived.OwnWalk
import Derived.Laws.BytesArg
import Derived.Laws.MakeOwn
import Derived.Laws.OwnMore
import Derived.Deep.OwnRows
import Derived.Tactics
import Derived.Lib.ConvBytes
import Derived.Laws.Slices
import Derived.WalkKit
import Derived.KernelRfl
import Derived.RowKit3
import Derived.Deep.LoopGhost
import Derived.Deep.QuietTactic
import Derived.BigQuiet
import Derived.WideLaws
import Derived.Deep.DeepCutAuto
import Derived.Deep.CutBlock
import Derived.Deep.RegionHeld3
import Derived.Laws.Rows
import Derived.Lib.AppendStr
import Derived.ArgAppend
import Derived.Laws.IdiomCopy
import Derived.OrdersHeld
import Derived.Laws.BitsLemmas
import Derived.RowKit
import Derived.Test.YtfdgihdmhdhpcaaDoorWWords
import Derived.Test.YtfdgihdmhdhpcaaDoorWLast
import Derived.Test.YtfdgihdmhdhpcaaDoorWTab
import Derived.Test.YtfdgihdmhdhpcaaDoorWFour
import Derived.Test.YtfdgihdmhdhpcaaDoorWQPut
import Derived.Test.YtfdgihdmhdhpcaaDoorWApart
import Derived.Test.YtfdgihdmhdhpcaaDoorWArr
import Derived.Test.YtfdgihdmhdhpcaaDoorWZeros
import Derived.Test.YtfdgihdmhdhpcaaDoorWFoot
import Derived.Test.YtfdgihdmhdhpcaaDoorWKept
import Derived.Test.YtfdgihdmhdhpcaaDoorWShare
import Derived.Test.YtfdgihdmhdhpcaaDoorWN
import Derived.Test.YtfdgihdmhdhpcaaDoorWFootNe
import Derived.Test.YtfdgihdmhdhpcaaDoorWAt
import Derived.Test.YtfdgihdmhdhpcaaDoorWEqStruct
import Derived.Test.YtfdgihdmhdhpcaaDoorWRepsOne
import Derived.Test.YtfdgihdmhdhpcaaDoorWInv
import Derived.Test.YtfdgihdmhdhpcaaDoorWInvWords
import Derived.Test.YtfdgihdmhdhpcaaDoorWGuard
import Derived.Test.YtfdgihdmhdhpcaaDoorWNEv
import Derived.Test.YtfdgihdmhdhpcaaDoorWMore
import Derived.Lib.Hide
import Derived.Outline
import Derived.Recover
import Derived.WalkLawsBesides
import Derived.Laws.Panics
import Derived.Laws.Pointers
import Derived.Tactics2
import Derived.Deep.RegionWith
import Derived.WalkSpells
import Derived.WalkMore
import Derived.Laws.Cover3
import Derived.Deep.MidRow
import Derived.Deep.Upon
import Derived.ChangeKeysEq
import Derived.Test.YtfdgihdmhdhpcaaDoorP0
import Derived.Test.YtfdgihdmhdhpcaaDoorS7
section
namespace Go.Proofs.YtfdgihdmhdhpcaaDoor.P
open Go.RowKit Go.Proofs.YtfdgihdmhdhpcaaDoorW.PrintWords Go.Proofs.YtfdgihdmhdhpcaaDoorW.PrintLast Go.Proofs.YtfdgihdmhdhpcaaDoorW.PrintMore
attribute [local go_sem] max2_int min2_int max_two min_two max_three min_three max_four min_four
set_option linter.unusedVariables false
set_option linter.unusedSimpArgs false
theorem within_calls (a b c : Int) (w : World) : Calls Tryd.prog 40 #[.int .i64 a, .int .i64 b, .int .i64 c] w fun e w' => e = .returned (.bool (decide (b ≤ a) && decide (a ≤ c))) ∧ w' = w := by
  go_enter Tryd.func40, Tryd.ntmps40
  by_cases h1 : b ≤ a <;> by_cases h2 : a ≤ c
  all_goals
    go_wp2_with (fail)
    go_ret
    simp [h1, h2]
def manifest_Valid.f (k : Nat) (a0 a1 a2 : Int) (l3 : List S38) : Option Bool := some (decide (1 ≤ a1) && decide (a1 ≤ a0) && decide (a0 ≤ 16) && decide (0 ≤ a2) && decide (a2 ≤ 16) && decide (1 ≤ l3.length) && decide (l3.length ≤ 4))
set_option maxRecDepth 100000 in
set_option maxHeartbeats 1000000 in
theorem manifest_Valid.calls (k : Nat) (a0_0 : Int) (a0_1 : Int) (a0_2 : Int) (A0_3 : Option Addr) (c0_3 : Nat) (l0_3 : List (S38)) (r : Bool) (w : World) (hr0_3 : Kd.C k38 w A0_3 l0_3.length l0_3) (hc0_3 : l0_3.length ≤ c0_3) (h : manifest_Valid.f k a0_0 a0_1 a0_2 l0_3 = some r) :
    Calls Tryd.prog 11 #[.agg #[.int .i64 a0_0, .int .i64 a0_1, .int .i64 a0_2, .slice A0_3 l0_3.length c0_3]] w fun e w' => e = .returned (.bool r) ∧ Below w.heap.size w w' := by
  obtain rfl := Option.some.inj h
  clear h
  go_enter Tryd.func11, Tryd.ntmps11
  have HB := Aside0.mk (below_alloc (Below.refl w.heap.size w) (.cells #[.int .i64 a0_0, .int .i64 a0_1, .int .i64 a0_2, .slice A0_3 l0_3.length c0_3] 24))
  go_wp2_with (fail)
  refine (within_calls _ _ _ _).mono ?_
  rintro e w1 ⟨rfl, hw1⟩
  obtain rfl := hw1
  by_cases h1 : 1 ≤ a0_1 ∧ a0_1 ≤ a0_0
  · rw [show (decide (1 ≤ a0_1) && decide (a0_1 ≤ a0_0)) = true by simp [h1]]
    by_cases h2 : a0_0 ≤ 16
    · go_wp2_with (fail)
      refine (within_calls _ _ _ _).mono ?_
      rintro e w1 ⟨rfl, hw1⟩
      obtain rfl := hw1
      by_cases h3 : 0 ≤ a0_2 ∧ a0_2 ≤ 16
      · rw [show (decide (0 ≤ a0_2) && decide (a0_2 ≤ 16)) = true by simp [h3]]
        go_wp2_with (fail)
        refine (within_calls _ _ _ _).mono ?_
        rintro e w1 ⟨rfl, hw1⟩
        obtain rfl := hw1
        go_wp2_with (fail)
        go_ret
        exact ⟨by simp [h1, h2, h3]; rw [Bool.eq_iff_iff]; simp; omega, HB.out⟩
      · rw [show (decide (0 ≤ a0_2) && decide (a0_2 ≤ 16)) = false by simp; omega]
        go_wp2_with (fail)
        go_ret
        exact ⟨by simp; try omega, HB.out⟩
    · go_wp2_with (fail)
      go_ret
      exact ⟨by simp; try omega, HB.out⟩
  · rw [show (decide (1 ≤ a0_1) && decide (a0_1 ≤ a0_0)) = false by simp; omega]
    go_wp2_with (fail)
    go_ret
    exact ⟨by simp; try omega, HB.out⟩
end Go.Proofs.YtfdgihdmhdhpcaaDoor.P
end
section
namespace Go.Proofs.YtfdgihdmhdhpcaaDoor.P
open Go.RowKit Go.Proofs.YtfdgihdmhdhpcaaDoorW.PrintWords Go.Proofs.YtfdgihdmhdhpcaaDoorW.PrintLast Go.Proofs.YtfdgihdmhdhpcaaDoorW.PrintMore
attribute [local go_sem] max2_int min2_int max_two min_two max_three min_three max_four min_four
set_option linter.unusedVariables false
set_option linter.unusedSimpArgs false
theorem convC (W : World) (s : ByteArray) (hs : s.size < 140737488355328) : Kd.C (Kd.int .u8) (Lib.bytesWorld W 5 s) (some ⟨W.heap.size, 0, none⟩) s.size (bytesOf s) :=
  Kd.C_of_reads (d := (0 : Int)) (h1 := fun _ => rfl) (bytes_reads W 5 s (by omega))
abbrev O38 : Obj := .cells #[.int .u8 0, .int .u8 0, .int .u8 0, .int .u8 0, .int .u8 0, .int .u8 0, .int .u8 0, .int .u8 0, .int .u8 0, .int .u8 0, .int .u8 0, .int .u8 0, .int .u8 0, .int .u8 0, .int .u8 0, .int .u8 0] 38
/-- A row of one readable row. -/
theorem C_one {W : World} {A : Option Addr} {n c : Nat} {xs : List Int} (h : Kd.C (Kd.int .u8) W A n xs) (hn : n = xs.length) (hc : n ≤ c) : Kd.C (Kd.slice 5 (Kd.int .u8)) (W.alloc (.cells #[.slice A n c] 74)) (some ⟨W.heap.size, 0, none⟩) 1 [xs] := by
  subst hn
  refine ⟨rfl, by decide, fun _ => ⟨_, rfl, fun j p hj => ?_⟩⟩
  match j, hj with
  | 0, hj =>
    obtain rfl : xs = p := by simpa using hj
    refine ⟨[.slice A xs.length c], rfl, ⟨A, c, rfl, hc, Kd.C_below h (below_alloc (Below.refl _ _) _)⟩, fun i u hi => ?_⟩
    match i, hi with
    | 0, hi =>
      obtain rfl : Value.slice A xs.length c = u := by simpa using hi
      rw [add_plain]
      simp [World.cell?, World.alloc, -World.alloc_eq]
def manifest_StageDigest.f (k : Nat) (a0 : ByteArray) : Option (Int × Int × Int × Int × Int × Int × Int × Int × Int × Int × Int × Int × Int × Int × Int × Int) := if a0.size < 140737488355328 then sha_Digest.f k 6 [bytesOf a0] else none
set_option maxRecDepth 100000 in
set_option maxHeartbeats 1000000 in
theorem manifest_StageDigest.calls (k : Nat) (a0 : ByteArray) (r1 : Int) (r2 : Int) (r3 : Int) (r4 : Int) (r5 : Int) (r6 : Int) (r7 : Int) (r8 : Int) (r9 : Int) (r10 : Int) (r11 : Int) (r12 : Int) (r13 : Int) (r14 : Int) (r15 : Int) (r16 : Int) (w : World) (htab : TabW w) (h : manifest_StageDigest.f k a0 = some (r1, r2, r3, r4, r5, r6, r7, r8, r9, r10, r11, r12, r13, r14, r15, r16)) :
    Calls Tryd.prog 21 #[.string a0] w fun e w' => e = .returned (.agg #[.int .u8 r1, .int .u8 r2, .int .u8 r3, .int .u8 r4, .int .u8 r5, .int .u8 r6, .int .u8 r7, .int .u8 r8, .int .u8 r9, .int .u8 r10, .int .u8 r11, .int .u8 r12, .int .u8 r13, .int .u8 r14, .int .u8 r15, .int .u8 r16]) ∧ Below w.heap.size w w' := by
  have HT := Aside0.mk htab
  clear htab
  unfold manifest_StageDigest.f at h
  by_cases hs : a0.size < 140737488355328
  case neg => rw [if_neg hs] at h; cases h
  rw [if_pos hs] at h
  have HH := Aside0.mk h
  clear h
  have kb := fun W => print_bytes (P := Tryd.prog) 9 74 5 Tryd.underlying9 Tryd.underlying74 Tryd.underlying5 a0 W
  go_enter Tryd.func21, Tryd.ntmps21
  go_wp2_with (fail)
  have hC0 : Kd.C (Kd.int .u8) (Lib.bytesWorld (w.alloc O38) 5 a0) (some ⟨w.heap.size + 1, 0, none⟩) a0.size (bytesOf a0) := by
    have h := convC (w.alloc O38) a0 hs
    rwa [World.size_alloc] at h
  have hb0 : Below w.heap.size w (Lib.bytesWorld (w.alloc O38) 5 a0) := bytes_below (below_alloc (Below.refl _ w) O38) (by simp) 5 a0
  refine (sha_Digest.calls k 6 (some ⟨(Lib.bytesWorld (w.alloc O38) 5 a0).heap.size, 0, none⟩) 1 [bytesOf a0] r1 r2 r3 r4 r5 r6 r7 r8 r9 r10 r11 r12 r13 r14 r15 r16 ((Lib.bytesWorld (w.alloc O38) 5 a0).alloc (.cells #[.slice (some ⟨w.heap.size + 1, 0, none⟩) a0.size (grownCap (w.alloc O38) a0.size 0 5)] 74)) (C_one hC0 (bytesOf_length a0).symm (grownCap_ge _ _ _ _)) (Nat.le_refl 1) (HT.out.below (below_alloc hb0 _)) HH.out).mono ?_
  rintro e w4 ⟨rfl, hb⟩
  have HB4 := Aside0.mk (below_then (below_alloc hb0 _) (below_alloc hb0 _).size hb)
  have hb1 : Below (w.alloc O38).heap.size (w.alloc O38) w4 := below_then (below_alloc (bytes_below (Below.refl _ _) (Nat.le_refl _) 5 a0) _) (below_alloc (bytes_below (Below.refl _ (w.alloc O38)) (Nat.le_refl _) 5 a0) _).size hb
  have hG4 : AB w4 w.heap.size 38 Z16 := (AB.new w 38 Z16).below hb1
  clear hb1 hC0 hb0
  clear hb
  have z0 := hG4.cell 0 (by decide)
  have z1 := hG4.cell 1 (by decide)
  have z2 := hG4.cell 2 (by decide)
  have z3 := hG4.cell 3 (by decide)
  have z4 := hG4.cell 4 (by decide)
  have z5 := hG4.cell 5 (by decide)
  have z6 := hG4.cell 6 (by decide)
  have z7 := hG4.cell 7 (by decide)
  have z8 := hG4.cell 8 (by decide)
  have z9 := hG4.cell 9 (by decide)
  have z10 := hG4.cell 10 (by decide)
  have z11 := hG4.cell 11 (by decide)
  have z12 := hG4.cell 12 (by decide)
  have z13 := hG4.cell 13 (by decide)
  have z14 := hG4.cell 14 (by decide)
  have z15 := hG4.cell 15 (by decide)
  have zf := hG4.frozen
  have HG4 := Aside0.mk hG4
  clear hG4
  go_wp2_with (fail)
  refine bodyPost_ret (results_cell_row rfl _ _ w.heap.size 38 _ (0, 0) _ rfl (HG4.out.set16 _ _ _ _ _ _ _ _ _ _ _ _ _ _ _ _) Tryd.underlying38 rfl (by kernel_rfl)) rfl ?_
  exact ⟨rfl, (set16_below HB4.out w.heap.size (Nat.le_refl _) _ _ _ _ _ _ _ _ _ _ _ _ _ _ _ _)⟩
end Go.Proofs.YtfdgihdmhdhpcaaDoor.P
end
section
namespace Go.Proofs.YtfdgihdmhdhpcaaDoor.P
open Go.RowKit Go.Proofs.YtfdgihdmhdhpcaaDoorW.PrintWords Go.Proofs.YtfdgihdmhdhpcaaDoorW.PrintLast Go.Proofs.YtfdgihdmhdhpcaaDoorW.PrintMore
attribute [local go_sem] max2_int min2_int max_two min_two max_three min_three max_four min_four
set_option linter.unusedVariables false
set_option linter.unusedSimpArgs false
theorem manifest_Valid.mono : ∀ a0 a1 a2 a3 k, LeO (manifest_Valid.f k a0 a1 a2 a3) (manifest_Valid.f (k + 1) a0 a1 a2 a3) := fun _ _ _ _ _ => LeO.refl _
theorem manifest_StageDigest.mono : ∀ a0 k, LeO (manifest_StageDigest.f k a0) (manifest_StageDigest.f (k + 1) a0) := by
  intro a0 k
  unfold manifest_StageDigest.f
  split
  · exact sha_Digest.mono _ _ _
  · exact LeO.refl _
end Go.Proofs.YtfdgihdmhdhpcaaDoor.P
end
