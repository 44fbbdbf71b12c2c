import Derived.Test.YtfdgihdmhdhpcaaDoorProg
import Derived.Below
import Derived.Deep.Draws
import Derived.Deep.AppendLies
import Derived.Maps.AppendAt
import Derived.OwnWalk
import Derived.Laws.BytesArg
import Derived.Laws.MakeOwn
import Derived.Laws.OwnMore
import Derived.Deep.OwnRows
import Derived.Tactics
import Derived.Lib.ConvBytes
import Derived.Laws.Slices
import Derived.WalkKit
import Derived.KernelRfl
import Derived.RowKit3
import Derived.Deep.LoopGhost
import Derived.Deep.QuietTactic
import Derived.BigQuiet
import Derived.WideLaws
import Derived.Deep.DeepCutAuto
import Derived.Deep.CutBlock
import Derived.Deep.RegionHeld3
import Derived.Laws.Rows
import Derived.Lib.AppendStr
import Derived.ArgAppend
import Derived.Laws.IdiomCopy
import Derived.OrdersHeld
import Derived.Laws.BitsLemmas
import Derived.RowKit
import Derived.Test.YtfdgihdmhdhpcaaDoorWWords
import Derived.Test.YtfdgihdmhdhpcaaDoorWLast
import Derived.Test.YtfdgihdmhdhpcaaDoorWTab
import Derived.Test.YtfdgihdmhdhpcaaDoorWFour
import Derived.Test.YtfdgihdmhdhpcaaDoorWQPut
import Derived.Test.YtfdgihdmhdhpcaaDoorWApart
import Derived.Test.YtfdgihdmhdhpcaaDoorWArr
import Derived.Test.YtfdgihdmhdhpcaaDoorWZeros
import Derived.Test.YtfdgihdmhdhpcaaDoorWFoot
import Derived.Test.YtfdgihdmhdhpcaaDoorWKept
import Derived.Test.YtfdgihdmhdhpcaaDoorWShare
import Derived.Test.YtfdgihdmhdhpcaaDoorWN
import Derived.Test.YtfdgihdmhdhpcaaDoorWFootNe
import Derived.Test.YtfdgihdmhdhpcaaDoorWAt
import Derived.Test.YtfdgihdmhdhpcaaDoorWEqStruct
import Derived.Test.YtfdgihdmhdhpcaaDoorWRepsOne
import Derived.Test.YtfdgihdmhdhpcaaDoorWInv
import Derived.Test.YtfdgihdmhdhpcaaDoorWInvWords
import Derived.Test.YtfdgihdmhdhpcaaDoorWGuard
import Derived.Test.YtfdgihdmhdhpcaaDoorWNEv
import Derived.Test.YtfdgihdmhdhpcaaDoorWMore
import Derived.Lib.Hide
import Derived.Outline
import Derived.Recover
import Derived.WalkLawsBesides
import Derived.Laws.Panics
import Derived.Laws.Pointers
import Derived.Tactics2
import Derived.Deep.RegionWith
import Derived.WalkSpells
import Derived.WalkMore
import Derived.Laws.Cover3
import Derived.Deep.MidRow
import Derived.Deep.Upon
import Derived.ChangeKeysEq
import Derived.Test.YtfdgihdmhdhpcaaDoorM7
namespace Go.Proofs.YtfdgihdmhdhpcaaDoor.P
open Go.RowKit Go.Proofs.YtfdgihdmhdhpcaaDoorW.PrintWords Go.Proofs.YtfdgihdmhdhpcaaDoorW.PrintLast Go.Proofs.YtfdgihdmhdhpcaaDoorW.PrintMore
attribute [local go_sem] max2_int min2_int max_two min_two max_three min_three max_four min_four
set_option linter.unusedVariables false
set_option linter.unusedSimpArgs false
theorem nextP_mono {α : Type} {g g' : List Int → Option (α × Int × Int)} (h : ∀ l, LeO (g l) (g' l)) (z : α) (l : List Int) (e : Int) : LeO (nextP g z l e) (nextP g' z l e) := by
  unfold nextP
  split
  · exact LeO.refl _
  · exact LeO.bind (h l) (fun _ => LeO.refl _)
theorem loopP_mono {α : Type} {g g' : List Int → Int → Option (α × List Int × Int)} (h : ∀ l e, LeO (g l e) (g' l e)) : ∀ (m : Nat) (acc : List α) (l : List Int) (e : Int), LeO (loopP g m acc l e) (loopP g' m acc l e)
  | 0, acc, l, e => LeO.refl _
  | m + 1, acc, l, e => by
    unfold loopP
    split
    · exact LeO.refl _
    · exact LeO.bind (h l e) (fun _ => loopP_mono h m _ _ _)
theorem intP_mono (k : Nat) (l : List Int) (e : Int) : LeO (nextP (wire_GetInt.f k) 0 l e) (nextP (wire_GetInt.f (k + 1)) 0 l e) := nextP_mono (fun l => wire_GetInt.mono l k) _ _ _
theorem digP_mono (k : Nat) (l : List Int) (e : Int) : LeO (nextP (wire_GetDigests.f k) [] l e) (nextP (wire_GetDigests.f (k + 1)) [] l e) := nextP_mono (fun l => wire_GetDigests.mono l k) _ _ _
theorem strP_mono (k : Nat) (l : List Int) (e : Int) : LeO (nextP (wire_GetBytes.f k) (⟨#[]⟩ : ByteArray) l e) (nextP (wire_GetBytes.f (k + 1)) (⟨#[]⟩ : ByteArray) l e) := nextP_mono (fun l => wire_GetBytes.mono l k) _ _ _
theorem manP_mono (k : Nat) (l : List Int) (e : Int) : LeO (manP k l e) (manP (k + 1) l e) :=
  LeO.bind (intP_mono k l e) (fun _ => LeO.bind (intP_mono k _ _) (fun _ => LeO.bind (intP_mono k _ _) (fun _ => LeO.bind (digP_mono k _ _) (fun _ => LeO.refl _))))
theorem keysP_mono (k : Nat) (l : List Int) (e : Int) : LeO (keysP k l e) (keysP (k + 1) l e) :=
  LeO.bind (intP_mono k l e) (fun _ => LeO.bind (intP_mono k _ _) (fun _ => LeO.bind (intP_mono k _ _) (fun _ => LeO.bind (digP_mono k _ _) (fun _ => LeO.refl _))))
theorem sigP_mono (k : Nat) (l : List Int) (e : Int) : LeO (sigP k l e) (sigP (k + 1) l e) :=
  LeO.bind (intP_mono k l e) (fun _ => LeO.bind (intP_mono k _ _) (fun _ => LeO.bind (digP_mono k _ _) (fun _ => LeO.bind (digP_mono k _ _) (fun _ => LeO.refl _))))
theorem listP_mono {α : Type} (k : Nat) {g g' : List Int → Int → Option (α × List Int × Int)} (h : ∀ l e, LeO (g l e) (g' l e)) (l : List Int) (e : Int) : LeO (listP k g l e) (listP (k + 1) g' l e) := by
  refine LeO.bind (intP_mono k l e) (fun a => ?_)
  split
  · exact LeO.refl _
  split
  · exact LeO.refl _
  split
  · exact LeO.refl _
  split
  · exact loopP_mono h _ _ _ _
  · exact LeO.refl _
theorem rotP_mono (k : Nat) (l : List Int) (e : Int) : LeO (rotP k l e) (rotP (k + 1) l e) :=
  LeO.bind (keysP_mono k l e) (fun _ => LeO.bind (listP_mono k (sigP_mono k) _ _) (fun _ => LeO.refl _))
theorem bunP_mono (k : Nat) (l : List Int) (e : Int) : LeO (bunP k l e) (bunP (k + 1) l e) :=
  LeO.bind (manP_mono k l e) (fun _ => LeO.bind (listP_mono k (sigP_mono k) _ _) (fun _ => LeO.bind (listP_mono k (strP_mono k) _ _) (fun _ => LeO.refl _)))
def manifest_Decode.f (k : Nat) (a0 : ByteArray) : Option (Int × Int × Int × (List S38) × Int) := if a0.size < 140737488355328 then (manP k (bytesOf a0) 0).bind fun t => some ((endP z24 t.1 t.2.1 t.2.2).1.f0, (endP z24 t.1 t.2.1 t.2.2).1.f1, (endP z24 t.1 t.2.1 t.2.2).1.f2, (endP z24 t.1 t.2.1 t.2.2).1.f3, (endP z24 t.1 t.2.1 t.2.2).2) else none
theorem manifest_Decode.mono : ∀ a0 k, LeO (manifest_Decode.f k a0) (manifest_Decode.f (k + 1) a0) := by
  intro a0 k
  unfold manifest_Decode.f
  split
  · exact LeO.bind (manP_mono k _ _) (fun _ => LeO.refl _)
  · exact LeO.refl _
set_option maxRecDepth 100000 in
set_option maxHeartbeats 1000000 in
theorem manifest_Decode.calls (k : Nat) (a0 : ByteArray) (r1 : Int) (r2 : Int) (r3 : Int) (r4 : List S38) (r5 : Int) (w : World) (h : manifest_Decode.f k a0 = some (r1, r2, r3, r4, r5)) :
    Calls Tryd.prog 31 #[.string a0] w fun e w' => ∃ v3_ : Value, e = .returned (.tuple #[.agg #[.int .i64 r1, .int .i64 r2, .int .i64 r3, v3_], .int .i64 r5]) ∧ Kd.R k38 38 w' w.heap.size (fun _ => True) v3_ r4 ∧ Below w.heap.size w w' := by
  unfold manifest_Decode.f at h
  by_cases hs : a0.size < 140737488355328
  case neg => rw [if_neg hs] at h; cases h
  rw [if_pos hs] at h
  obtain ⟨⟨x, l, e⟩, hP, h⟩ := Option.bind_eq_some_iff.1 h
  have HP := Aside0.mk hP
  clear hP
  simp only at h
  obtain ⟨y, hy⟩ : ∃ y, y = endP z24 x l e := ⟨_, rfl⟩
  rw [← hy] at h
  have HY := Aside0.mk hy
  clear hy
  obtain ⟨y1, y2⟩ := y
  simp only [Option.some.injEq, Prod.mk.injEq] at h
  obtain ⟨rfl, rfl, rfl, rfl, rfl⟩ := h
  have HB0 := Aside0.mk (blk_new w (.cells #[.int .i64 0, .int .i64 0, .int .i64 0, .slice none 0 0] 24 : Obj))
  have hal := below_alloc (Below.refl _ w) (.cells #[.int .i64 0, .int .i64 0, .int .i64 0, .slice none 0 0] 24 : Obj)
  have T0 := Aside0.mk hal
  clear hal
  go_enter Tryd.func31, Tryd.ntmps31
  go_wp2_with (fail)
  refine (decode_man_calls k a0 x l e _ hs HP.out).mono ?_
  rw [← HY.out]
  rintro e_ w1 ⟨v3, rfl, hR3, hb⟩
  obtain ⟨A3, c3, rfl⟩ := Kd.R_slice hR3
  have R3 := Aside0.mk hR3
  have HB1 := Aside0.mk (blk_below HB0.out hb)
  have T := Aside0.mk (below_then T0.out T0.out.size hb)
  have hsz : (w.alloc (.cells #[.int .i64 0, .int .i64 0, .int .i64 0, .slice none 0 0] 24 : Obj)).heap.size = w.heap.size + 1 := World.size_alloc _ _
  clear hb hR3 HB0 T0
  have x0 := blk_cell HB1.out 0
  have x1 := blk_cell HB1.out 1
  have x2 := blk_cell HB1.out 2
  have x3 := blk_cell HB1.out 3
  have xf := blk_frozen HB1.out
  go_wp2_with (fail)
  refine bodyPost_ret (results_ct rfl _ _ w.heap.size 24 _ (0, 0) _ rfl (blk_put (blk_put (blk_put (blk_put (HB1.out) 0 _ rfl) 1 _ rfl) 2 _ rfl) 3 _ rfl) Tryd.underlying24 rfl (by kernel_rfl)) rfl ?_
  exact ⟨_, rfl, R_out (R_far (R_far (R_far (R_far (R3.out) (by show w.heap.size < _; omega) _) (by show w.heap.size < _; omega) _) (by show w.heap.size < _; omega) _) (by show w.heap.size < _; omega) _) (by omega), below_set (below_set (below_set (below_set (T.out) (Nat.le_refl _)) (Nat.le_refl _)) (Nat.le_refl _)) (Nat.le_refl _)⟩
def manifest_DecodeKeyset.f (k : Nat) (a0 : ByteArray) : Option (Int × Int × Int × (List S38) × Int) := if a0.size < 140737488355328 then (keysP k (bytesOf a0) 0).bind fun t => some ((endP z30 t.1 t.2.1 t.2.2).1.f0, (endP z30 t.1 t.2.1 t.2.2).1.f1, (endP z30 t.1 t.2.1 t.2.2).1.f2, (endP z30 t.1 t.2.1 t.2.2).1.f3, (endP z30 t.1 t.2.1 t.2.2).2) else none
theorem manifest_DecodeKeyset.mono : ∀ a0 k, LeO (manifest_DecodeKeyset.f k a0) (manifest_DecodeKeyset.f (k + 1) a0) := by
  intro a0 k
  unfold manifest_DecodeKeyset.f
  split
  · exact LeO.bind (keysP_mono k _ _) (fun _ => LeO.refl _)
  · exact LeO.refl _
set_option maxRecDepth 100000 in
set_option maxHeartbeats 1000000 in
theorem manifest_DecodeKeyset.calls (k : Nat) (a0 : ByteArray) (r1 : Int) (r2 : Int) (r3 : Int) (r4 : List S38) (r5 : Int) (w : World) (h : manifest_DecodeKeyset.f k a0 = some (r1, r2, r3, r4, r5)) :
    Calls Tryd.prog 33 #[.string a0] w fun e w' => ∃ v3_ : Value, e = .returned (.tuple #[.agg #[.int .i64 r1, .int .i64 r2, .int .i64 r3, v3_], .int .i64 r5]) ∧ Kd.R k38 38 w' w.heap.size (fun _ => True) v3_ r4 ∧ Below w.heap.size w w' := by
  unfold manifest_DecodeKeyset.f at h
  by_cases hs : a0.size < 140737488355328
  case neg => rw [if_neg hs] at h; cases h
  rw [if_pos hs] at h
  obtain ⟨⟨x, l, e⟩, hP, h⟩ := Option.bind_eq_some_iff.1 h
  have HP := Aside0.mk hP
  clear hP
  simp only at h
  obtain ⟨y, hy⟩ : ∃ y, y = endP z30 x l e := ⟨_, rfl⟩
  rw [← hy] at h
  have HY := Aside0.mk hy
  clear hy
  obtain ⟨y1, y2⟩ := y
  simp only [Option.some.injEq, Prod.mk.injEq] at h
  obtain ⟨rfl, rfl, rfl, rfl, rfl⟩ := h
  have HB0 := Aside0.mk (blk_new w (.cells #[.int .i64 0, .int .i64 0, .int .i64 0, .slice none 0 0] 30 : Obj))
  have hal := below_alloc (Below.refl _ w) (.cells #[.int .i64 0, .int .i64 0, .int .i64 0, .slice none 0 0] 30 : Obj)
  have T0 := Aside0.mk hal
  clear hal
  go_enter Tryd.func33, Tryd.ntmps33
  go_wp2_with (fail)
  refine (decode_keys_calls k a0 x l e _ hs HP.out).mono ?_
  rw [← HY.out]
  rintro e_ w1 ⟨v3, rfl, hR3, hb⟩
  obtain ⟨A3, c3, rfl⟩ := Kd.R_slice hR3
  have R3 := Aside0.mk hR3
  have HB1 := Aside0.mk (blk_below HB0.out hb)
  have T := Aside0.mk (below_then T0.out T0.out.size hb)
  have hsz : (w.alloc (.cells #[.int .i64 0, .int .i64 0, .int .i64 0, .slice none 0 0] 30 : Obj)).heap.size = w.heap.size + 1 := World.size_alloc _ _
  clear hb hR3 HB0 T0
  have x0 := blk_cell HB1.out 0
  have x1 := blk_cell HB1.out 1
  have x2 := blk_cell HB1.out 2
  have x3 := blk_cell HB1.out 3
  have xf := blk_frozen HB1.out
  go_wp2_with (fail)
  refine bodyPost_ret (results_ct rfl _ _ w.heap.size 30 _ (0, 0) _ rfl (blk_put (blk_put (blk_put (blk_put (HB1.out) 0 _ rfl) 1 _ rfl) 2 _ rfl) 3 _ rfl) Tryd.underlying30 rfl (by kernel_rfl)) rfl ?_
  exact ⟨_, rfl, R_out (R_far (R_far (R_far (R_far (R3.out) (by show w.heap.size < _; omega) _) (by show w.heap.size < _; omega) _) (by show w.heap.size < _; omega) _) (by show w.heap.size < _; omega) _) (by omega), below_set (below_set (below_set (below_set (T.out) (Nat.le_refl _)) (Nat.le_refl _)) (Nat.le_refl _)) (Nat.le_refl _)⟩
def manifest_DecodeBundle.f (k : Nat) (a0 : ByteArray) : Option (Int × Int × Int × (List S38) × (List S72) × (List ByteArray) × Int) := if a0.size < 140737488355328 then (bunP k (bytesOf a0) 0).bind fun t => some ((endP z28 t.1 t.2.1 t.2.2).1.f0.f0, (endP z28 t.1 t.2.1 t.2.2).1.f0.f1, (endP z28 t.1 t.2.1 t.2.2).1.f0.f2, (endP z28 t.1 t.2.1 t.2.2).1.f0.f3, (endP z28 t.1 t.2.1 t.2.2).1.f1, (endP z28 t.1 t.2.1 t.2.2).1.f2, (endP z28 t.1 t.2.1 t.2.2).2) else none
theorem manifest_DecodeBundle.mono : ∀ a0 k, LeO (manifest_DecodeBundle.f k a0) (manifest_DecodeBundle.f (k + 1) a0) := by
  intro a0 k
  unfold manifest_DecodeBundle.f
  split
  · exact LeO.bind (bunP_mono k _ _) (fun _ => LeO.refl _)
  · exact LeO.refl _
set_option maxRecDepth 100000 in
set_option maxHeartbeats 1000000 in
theorem manifest_DecodeBundle.calls (k : Nat) (a0 : ByteArray) (r1 : Int) (r2 : Int) (r3 : Int) (r4 : List S38) (r5 : List S72) (r6 : List ByteArray) (r7 : Int) (w : World) (h : manifest_DecodeBundle.f k a0 = some (r1, r2, r3, r4, r5, r6, r7)) :
    Calls Tryd.prog 35 #[.string a0] w fun e w' => ∃ v3_ v4_ v5_ : Value, e = .returned (.tuple #[.agg #[.int .i64 r1, .int .i64 r2, .int .i64 r3, v3_, v4_, v5_], .int .i64 r7]) ∧ Kd.R k38 38 w' w.heap.size (fun _ => True) v3_ r4 ∧ Kd.R k72 72 w' w.heap.size (fun k_ => some k_ ≠ (v3_ : Value).ownBlock) v4_ r5 ∧ Kd.R Kd.string 9 w' w.heap.size (fun _ => True) v5_ r6 ∧ Below w.heap.size w w' := by
  unfold manifest_DecodeBundle.f at h
  by_cases hs : a0.size < 140737488355328
  case neg => rw [if_neg hs] at h; cases h
  rw [if_pos hs] at h
  obtain ⟨⟨x, l, e⟩, hP, h⟩ := Option.bind_eq_some_iff.1 h
  have HP := Aside0.mk hP
  clear hP
  simp only at h
  obtain ⟨y, hy⟩ : ∃ y, y = endP z28 x l e := ⟨_, rfl⟩
  rw [← hy] at h
  have HY := Aside0.mk hy
  clear hy
  obtain ⟨y1, y2⟩ := y
  simp only [Option.some.injEq, Prod.mk.injEq] at h
  obtain ⟨rfl, rfl, rfl, rfl, rfl, rfl, rfl⟩ := h
  have HB0 := Aside0.mk (blk_new w (.cells #[.int .i64 0, .int .i64 0, .int .i64 0, .slice none 0 0, .slice none 0 0, .slice none 0 0] 28 : Obj))
  have hal := below_alloc (Below.refl _ w) (.cells #[.int .i64 0, .int .i64 0, .int .i64 0, .slice none 0 0, .slice none 0 0, .slice none 0 0] 28 : Obj)
  have T0 := Aside0.mk hal
  clear hal
  go_enter Tryd.func35, Tryd.ntmps35
  go_wp2_with (fail)
  refine (decode_bun_calls k a0 x l e _ hs HP.out).mono ?_
  rw [← HY.out]
  rintro e_ w1 ⟨v3, v4, v5, rfl, hR3, hR4, hR5, hb⟩
  obtain ⟨A3, c3, rfl⟩ := Kd.R_slice hR3
  obtain ⟨A4, c4, rfl⟩ := Kd.R_slice hR4
  obtain ⟨A5, c5, rfl⟩ := Kd.R_slice hR5
  have R3 := Aside0.mk hR3
  have R4 := Aside0.mk hR4
  have R5 := Aside0.mk hR5
  have HB1 := Aside0.mk (blk_below HB0.out hb)
  have T := Aside0.mk (below_then T0.out T0.out.size hb)
  have hsz : (w.alloc (.cells #[.int .i64 0, .int .i64 0, .int .i64 0, .slice none 0 0, .slice none 0 0, .slice none 0 0] 28 : Obj)).heap.size = w.heap.size + 1 := World.size_alloc _ _
  clear hb hR3 hR4 hR5 HB0 T0
  have x0 := blk_cell HB1.out 0
  have x1 := blk_cell HB1.out 1
  have x2 := blk_cell HB1.out 2
  have x3 := blk_cell HB1.out 3
  have x4 := blk_cell HB1.out 4
  have x5 := blk_cell HB1.out 5
  have xf := blk_frozen HB1.out
  go_wp2_with (fail)
  refine bodyPost_ret (results_ct rfl _ _ w.heap.size 28 _ (0, 0) _ rfl (blk_put (blk_put (blk_put (blk_put (blk_put (blk_put (HB1.out) 0 _ rfl) 1 _ rfl) 2 _ rfl) 3 _ rfl) 4 _ rfl) 5 _ rfl) Tryd.underlying28 rfl (by kernel_rfl)) rfl ?_
  exact ⟨_, _, _, rfl, R_out (R_far (R_far (R_far (R_far (R_far (R_far (R3.out) (by show w.heap.size < _; omega) _) (by show w.heap.size < _; omega) _) (by show w.heap.size < _; omega) _) (by show w.heap.size < _; omega) _) (by show w.heap.size < _; omega) _) (by show w.heap.size < _; omega) _) (by omega), R_out (R_far (R_far (R_far (R_far (R_far (R_far (R4.out) (by show w.heap.size < _; omega) _) (by show w.heap.size < _; omega) _) (by show w.heap.size < _; omega) _) (by show w.heap.size < _; omega) _) (by show w.heap.size < _; omega) _) (by show w.heap.size < _; omega) _) (by omega), R_out (R_far (R_far (R_far (R_far (R_far (R_far (R5.out) (by show w.heap.size < _; omega) _) (by show w.heap.size < _; omega) _) (by show w.heap.size < _; omega) _) (by show w.heap.size < _; omega) _) (by show w.heap.size < _; omega) _) (by show w.heap.size < _; omega) _) (by omega), below_set (below_set (below_set (below_set (below_set (below_set (T.out) (Nat.le_refl _)) (Nat.le_refl _)) (Nat.le_refl _)) (Nat.le_refl _)) (Nat.le_refl _)) (Nat.le_refl _)⟩
def manifest_DecodeRotation.f (k : Nat) (a0 : ByteArray) : Option (Int × Int × Int × (List S38) × (List S72) × Int) := if a0.size < 140737488355328 then (rotP k (bytesOf a0) 0).bind fun t => some ((endP z32 t.1 t.2.1 t.2.2).1.f0.f0, (endP z32 t.1 t.2.1 t.2.2).1.f0.f1, (endP z32 t.1 t.2.1 t.2.2).1.f0.f2, (endP z32 t.1 t.2.1 t.2.2).1.f0.f3, (endP z32 t.1 t.2.1 t.2.2).1.f1, (endP z32 t.1 t.2.1 t.2.2).2) else none
theorem manifest_DecodeRotation.mono : ∀ a0 k, LeO (manifest_DecodeRotation.f k a0) (manifest_DecodeRotation.f (k + 1) a0) := by
  intro a0 k
  unfold manifest_DecodeRotation.f
  split
  · exact LeO.bind (rotP_mono k _ _) (fun _ => LeO.refl _)
  · exact LeO.refl _
set_option maxRecDepth 100000 in
set_option maxHeartbeats 1000000 in
theorem manifest_DecodeRotation.calls (k : Nat) (a0 : ByteArray) (r1 : Int) (r2 : Int) (r3 : Int) (r4 : List S38) (r5 : List S72) (r6 : Int) (w : World) (h : manifest_DecodeRotation.f k a0 = some (r1, r2, r3, r4, r5, r6)) :
    Calls Tryd.prog 37 #[.string a0] w fun e w' => ∃ v3_ v4_ : Value, e = .returned (.tuple #[.agg #[.int .i64 r1, .int .i64 r2, .int .i64 r3, v3_, v4_], .int .i64 r6]) ∧ Kd.R k38 38 w' w.heap.size (fun _ => True) v3_ r4 ∧ Kd.R k72 72 w' w.heap.size (fun k_ => some k_ ≠ (v3_ : Value).ownBlock) v4_ r5 ∧ Below w.heap.size w w' := by
  unfold manifest_DecodeRotation.f at h
  by_cases hs : a0.size < 140737488355328
  case neg => rw [if_neg hs] at h; cases h
  rw [if_pos hs] at h
  obtain ⟨⟨x, l, e⟩, hP, h⟩ := Option.bind_eq_some_iff.1 h
  have HP := Aside0.mk hP
  clear hP
  simp only at h
  obtain ⟨y, hy⟩ : ∃ y, y = endP z32 x l e := ⟨_, rfl⟩
  rw [← hy] at h
  have HY := Aside0.mk hy
  clear hy
  obtain ⟨y1, y2⟩ := y
  simp only [Option.some.injEq, Prod.mk.injEq] at h
  obtain ⟨rfl, rfl, rfl, rfl, rfl, rfl⟩ := h
  have HB0 := Aside0.mk (blk_new w (.cells #[.int .i64 0, .int .i64 0, .int .i64 0, .slice none 0 0, .slice none 0 0] 32 : Obj))
  have hal := below_alloc (Below.refl _ w) (.cells #[.int .i64 0, .int .i64 0, .int .i64 0, .slice none 0 0, .slice none 0 0] 32 : Obj)
  have T0 := Aside0.mk hal
  clear hal
  go_enter Tryd.func37, Tryd.ntmps37
  go_wp2_with (fail)
  refine (decode_rot_calls k a0 x l e _ hs HP.out).mono ?_
  rw [← HY.out]
  rintro e_ w1 ⟨v3, v4, rfl, hR3, hR4, hb⟩
  obtain ⟨A3, c3, rfl⟩ := Kd.R_slice hR3
  obtain ⟨A4, c4, rfl⟩ := Kd.R_slice hR4
  have R3 := Aside0.mk hR3
  have R4 := Aside0.mk hR4
  have HB1 := Aside0.mk (blk_below HB0.out hb)
  have T := Aside0.mk (below_then T0.out T0.out.size hb)
  have hsz : (w.alloc (.cells #[.int .i64 0, .int .i64 0, .int .i64 0, .slice none 0 0, .slice none 0 0] 32 : Obj)).heap.size = w.heap.size + 1 := World.size_alloc _ _
  clear hb hR3 hR4 HB0 T0
  have x0 := blk_cell HB1.out 0
  have x1 := blk_cell HB1.out 1
  have x2 := blk_cell HB1.out 2
  have x3 := blk_cell HB1.out 3
  have x4 := blk_cell HB1.out 4
  have xf := blk_frozen HB1.out
  go_wp2_with (fail)
  refine bodyPost_ret (results_ct rfl _ _ w.heap.size 32 _ (0, 0) _ rfl (blk_put (blk_put (blk_put (blk_put (blk_put (HB1.out) 0 _ rfl) 1 _ rfl) 2 _ rfl) 3 _ rfl) 4 _ rfl) Tryd.underlying32 rfl (by kernel_rfl)) rfl ?_
  exact ⟨_, _, rfl, R_out (R_far (R_far (R_far (R_far (R_far (R3.out) (by show w.heap.size < _; omega) _) (by show w.heap.size < _; omega) _) (by show w.heap.size < _; omega) _) (by show w.heap.size < _; omega) _) (by show w.heap.size < _; omega) _) (by omega), R_out (R_far (R_far (R_far (R_far (R_far (R4.out) (by show w.heap.size < _; omega) _) (by show w.heap.size < _; omega) _) (by show w.heap.size < _; omega) _) (by show w.heap.size < _; omega) _) (by show w.heap.size < _; omega) _) (by omega), below_set (below_set (below_set (below_set (below_set (T.out) (Nat.le_refl _)) (Nat.le_refl _)) (Nat.le_refl _)) (Nat.le_refl _)) (Nat.le_refl _)⟩
end Go.Proofs.YtfdgihdmhdhpcaaDoor.P
