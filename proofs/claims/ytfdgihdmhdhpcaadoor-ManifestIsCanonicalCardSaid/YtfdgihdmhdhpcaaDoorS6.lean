import Derived.Test.YtfdgihdmhdhpcaaDoorProg
import Derived.Below
import Derived.Deep.Draws
import Derived.Deep.AppendLies
import Derived.Maps.AppendAt
import Derived.OwnWalk
import Derived.Laws.BytesArg
import Derived.Laws.MakeOwn
import Derived.Laws.OwnMore
import Derived.Deep.OwnRows
import Derived.Tactics
import Derived.Lib.ConvBytes
import Derived.Laws.Slices
import Derived.WalkKit
import Derived.KernelRfl
import Derived.RowKit3
import Derived.Deep.LoopGhost
import Derived.Deep.QuietTactic
import Derived.BigQuiet
import Derived.WideLaws
import Derived.Deep.DeepCutAuto
import Derived.Deep.CutBlock
import Derived.Deep.RegionHeld3
import Derived.Laws.Rows
import Derived.Lib.AppendStr
import Derived.ArgAppend
import Derived.Laws.IdiomCopy
import Derived.OrdersHeld
import Derived.Laws.BitsLemmas
import Derived.RowKit
import Derived.Test.YtfdgihdmhdhpcaaDoorWWords
import Derived.Test.YtfdgihdmhdhpcaaDoorWLast
import Derived.Test.YtfdgihdmhdhpcaaDoorWTab
import Derived.Test.YtfdgihdmhdhpcaaDoorWFour
import Derived.Test.YtfdgihdmhdhpcaaDoorWQPut
import Derived.Test.YtfdgihdmhdhpcaaDoorWApart
import Derived.Test.YtfdgihdmhdhpcaaDoorWArr
import Derived.Test.YtfdgihdmhdhpcaaDoorWZeros
import Derived.Test.YtfdgihdmhdhpcaaDoorWFoot
import Derived.Test.YtfdgihdmhdhpcaaDoorWKept
import Derived.Test.YtfdgihdmhdhpcaaDoorWShare
import Derived.Test.YtfdgihdmhdhpcaaDoorWN
import Derived.Test.YtfdgihdmhdhpcaaDoorWFootNe
import Derived.Test.YtfdgihdmhdhpcaaDoorWAt
import Derived.Test.YtfdgihdmhdhpcaaDoorWEqStruct
import Derived.Test.YtfdgihdmhdhpcaaDoorWRepsOne
import Derived.Test.YtfdgihdmhdhpcaaDoorWInv
import Derived.Test.YtfdgihdmhdhpcaaDoorWInvWords
import Derived.Test.YtfdgihdmhdhpcaaDoorWGuard
import Derived.Test.YtfdgihdmhdhpcaaDoorWNEv
import Derived.Test.YtfdgihdmhdhpcaaDoorWMore
import Derived.Lib.Hide
import Derived.Outline
import Derived.Recover
import Derived.WalkLawsBesides
import Derived.Laws.Panics
import Derived.Laws.Pointers
import Derived.Tactics2
import Derived.Deep.RegionWith
import Derived.WalkSpells
import Derived.WalkMore
import Derived.Laws.Cover3
import Derived.Deep.MidRow
import Derived.Deep.Upon
import Derived.Test.YtfdgihdmhdhpcaaDoorS5
namespace Go.Proofs.YtfdgihdmhdhpcaaDoor.P
open Go.RowKit Go.Proofs.YtfdgihdmhdhpcaaDoorW.PrintWords Go.Proofs.YtfdgihdmhdhpcaaDoorW.PrintLast Go.Proofs.YtfdgihdmhdhpcaaDoorW.PrintMore
attribute [local go_sem] max2_int min2_int max_two min_two max_three min_three max_four min_four
set_option linter.unusedVariables false
set_option linter.unusedSimpArgs false
theorem run_arrayAt38 {w : World} (a : Option Addr) (len cap : Nat) (h : 16 ≤ len) : (Instr.arrayAt 38 (.slice a len cap)).run Tryd.prog w = .ok (.pointer a) w := run_arrayAt w 38 5 16 a len cap Tryd.underlying38 h
attribute [local go_sem] run_arrayAt38
/-- The sixteen bytes of a list. -/
def tup16 (l : List Int) : Int × Int × Int × Int × Int × Int × Int × Int × Int × Int × Int × Int × Int × Int × Int × Int := ((gw l 0), (gw l 1), (gw l 2), (gw l 3), (gw l 4), (gw l 5), (gw l 6), (gw l 7), (gw l 8), (gw l 9), (gw l 10), (gw l 11), (gw l 12), (gw l 13), (gw l 14), (gw l 15))
set_option maxRecDepth 100000 in
theorem short_calls (l : List Int) (hl : l.length = 32) (w : World) : Calls Tryd.prog 71 #[.agg (nums .u8 l).toArray] w fun e w' => e = .returned (.agg #[.int .u8 (gw l 0), .int .u8 (gw l 1), .int .u8 (gw l 2), .int .u8 (gw l 3), .int .u8 (gw l 4), .int .u8 (gw l 5), .int .u8 (gw l 6), .int .u8 (gw l 7), .int .u8 (gw l 8), .int .u8 (gw l 9), .int .u8 (gw l 10), .int .u8 (gw l 11), .int .u8 (gw l 12), .int .u8 (gw l 13), .int .u8 (gw l 14), .int .u8 (gw l 15)]) ∧ Below w.heap.size w w' := by
  match l, hl with
  | [x0, x1, x2, x3, x4, x5, x6, x7, x8, x9, x10, x11, x12, x13, x14, x15, x16, x17, x18, x19, x20, x21, x22, x23, x24, x25, x26, x27, x28, x29, x30, x31], _ =>
    show Calls Tryd.prog 71 #[.agg #[.int .u8 x0, .int .u8 x1, .int .u8 x2, .int .u8 x3, .int .u8 x4, .int .u8 x5, .int .u8 x6, .int .u8 x7, .int .u8 x8, .int .u8 x9, .int .u8 x10, .int .u8 x11, .int .u8 x12, .int .u8 x13, .int .u8 x14, .int .u8 x15, .int .u8 x16, .int .u8 x17, .int .u8 x18, .int .u8 x19, .int .u8 x20, .int .u8 x21, .int .u8 x22, .int .u8 x23, .int .u8 x24, .int .u8 x25, .int .u8 x26, .int .u8 x27, .int .u8 x28, .int .u8 x29, .int .u8 x30, .int .u8 x31]] w fun e w' => e = .returned (.agg #[.int .u8 x0, .int .u8 x1, .int .u8 x2, .int .u8 x3, .int .u8 x4, .int .u8 x5, .int .u8 x6, .int .u8 x7, .int .u8 x8, .int .u8 x9, .int .u8 x10, .int .u8 x11, .int .u8 x12, .int .u8 x13, .int .u8 x14, .int .u8 x15]) ∧ Below w.heap.size w w'
    go_enter Tryd.func71, Tryd.ntmps71
    go_wp2_with (fail)
    refine bodyPost_ret (results_cell_row rfl _ _ (w.heap.size + 1) 38 #[.int .u8 x0, .int .u8 x1, .int .u8 x2, .int .u8 x3, .int .u8 x4, .int .u8 x5, .int .u8 x6, .int .u8 x7, .int .u8 x8, .int .u8 x9, .int .u8 x10, .int .u8 x11, .int .u8 x12, .int .u8 x13, .int .u8 x14, .int .u8 x15] (0, 0) _ rfl ?_ Tryd.underlying38 rfl (by kernel_rfl)) rfl ?_
    · have h2 := World.alloc_heap_new (w.alloc (.cells #[.int .u8 x0, .int .u8 x1, .int .u8 x2, .int .u8 x3, .int .u8 x4, .int .u8 x5, .int .u8 x6, .int .u8 x7, .int .u8 x8, .int .u8 x9, .int .u8 x10, .int .u8 x11, .int .u8 x12, .int .u8 x13, .int .u8 x14, .int .u8 x15, .int .u8 x16, .int .u8 x17, .int .u8 x18, .int .u8 x19, .int .u8 x20, .int .u8 x21, .int .u8 x22, .int .u8 x23, .int .u8 x24, .int .u8 x25, .int .u8 x26, .int .u8 x27, .int .u8 x28, .int .u8 x29, .int .u8 x30, .int .u8 x31] 113)) (.cells #[.int .u8 x0, .int .u8 x1, .int .u8 x2, .int .u8 x3, .int .u8 x4, .int .u8 x5, .int .u8 x6, .int .u8 x7, .int .u8 x8, .int .u8 x9, .int .u8 x10, .int .u8 x11, .int .u8 x12, .int .u8 x13, .int .u8 x14, .int .u8 x15] 38)
      rwa [World.size_alloc] at h2
    · exact ⟨rfl, ((Below.refl _ w).alloc (Nat.le_refl _) _).alloc (by simp) _⟩
theorem AB.cell {W : World} {g t : Nat} {xs : List Int} (h : AB W g t xs) (i : Nat) (hi : i < xs.length) : W.cell? ⟨g, i, none⟩ = some (.int .u8 (gw xs i)) := by
  unfold AB at h
  simp [World.cell?, h, nums, gw, List.getElem?_eq_getElem hi, List.getD_eq_getElem?_getD]
theorem AB.frozen {W : World} {g t : Nat} {xs : List Int} (h : AB W g t xs) (i : Nat) : W.frozen? ⟨g, i, none⟩ = false := by
  unfold AB at h
  simp [World.frozen?, h]
theorem AB.set {W : World} {g t : Nat} {xs : List Int} (h : AB W g t xs) (i : Nat) (v : Int) : AB (W.setCell ⟨g, i, none⟩ (.int .u8 v)) g t (xs.set i v) := by
  unfold AB at h ⊢
  rw [heap_setCell_same _ _ _ _ _ _ h]
  simp [nums, List.map_set]
def Z16 : List Int := [0, 0, 0, 0, 0, 0, 0, 0, 0, 0, 0, 0, 0, 0, 0, 0]
theorem AB.set16 {W : World} {g t : Nat} (h : AB W g t (Z16)) (y0 y1 y2 y3 y4 y5 y6 y7 y8 y9 y10 y11 y12 y13 y14 y15 : Int) : ((((((((((((((((W.setCell ⟨g, 0, none⟩ (.int .u8 y0)).setCell ⟨g, 1, none⟩ (.int .u8 y1)).setCell ⟨g, 2, none⟩ (.int .u8 y2)).setCell ⟨g, 3, none⟩ (.int .u8 y3)).setCell ⟨g, 4, none⟩ (.int .u8 y4)).setCell ⟨g, 5, none⟩ (.int .u8 y5)).setCell ⟨g, 6, none⟩ (.int .u8 y6)).setCell ⟨g, 7, none⟩ (.int .u8 y7)).setCell ⟨g, 8, none⟩ (.int .u8 y8)).setCell ⟨g, 9, none⟩ (.int .u8 y9)).setCell ⟨g, 10, none⟩ (.int .u8 y10)).setCell ⟨g, 11, none⟩ (.int .u8 y11)).setCell ⟨g, 12, none⟩ (.int .u8 y12)).setCell ⟨g, 13, none⟩ (.int .u8 y13)).setCell ⟨g, 14, none⟩ (.int .u8 y14)).setCell ⟨g, 15, none⟩ (.int .u8 y15)).heap[g]? = some (.cells #[.int .u8 y0, .int .u8 y1, .int .u8 y2, .int .u8 y3, .int .u8 y4, .int .u8 y5, .int .u8 y6, .int .u8 y7, .int .u8 y8, .int .u8 y9, .int .u8 y10, .int .u8 y11, .int .u8 y12, .int .u8 y13, .int .u8 y14, .int .u8 y15] t (0, 0)) := by
  have e := ((((((((((((((((h.set 0 y0).set 1 y1).set 2 y2).set 3 y3).set 4 y4).set 5 y5).set 6 y6).set 7 y7).set 8 y8).set 9 y9).set 10 y10).set 11 y11).set 12 y12).set 13 y13).set 14 y14).set 15 y15)
  simp only [Z16, List.set_cons_zero, List.set_cons_succ] at e
  exact e
theorem set16_below {B : Nat} {w W : World} (h : Below B w W) (g : Nat) (hg : B ≤ g) (y0 y1 y2 y3 y4 y5 y6 y7 y8 y9 y10 y11 y12 y13 y14 y15 : Int) : Below B w ((((((((((((((((W.setCell ⟨g, 0, none⟩ (.int .u8 y0)).setCell ⟨g, 1, none⟩ (.int .u8 y1)).setCell ⟨g, 2, none⟩ (.int .u8 y2)).setCell ⟨g, 3, none⟩ (.int .u8 y3)).setCell ⟨g, 4, none⟩ (.int .u8 y4)).setCell ⟨g, 5, none⟩ (.int .u8 y5)).setCell ⟨g, 6, none⟩ (.int .u8 y6)).setCell ⟨g, 7, none⟩ (.int .u8 y7)).setCell ⟨g, 8, none⟩ (.int .u8 y8)).setCell ⟨g, 9, none⟩ (.int .u8 y9)).setCell ⟨g, 10, none⟩ (.int .u8 y10)).setCell ⟨g, 11, none⟩ (.int .u8 y11)).setCell ⟨g, 12, none⟩ (.int .u8 y12)).setCell ⟨g, 13, none⟩ (.int .u8 y13)).setCell ⟨g, 14, none⟩ (.int .u8 y14)).setCell ⟨g, 15, none⟩ (.int .u8 y15)) := ((((((((((((((((h.setCell (p := ⟨g, 0, none⟩) hg (.int .u8 y0)).setCell (p := ⟨g, 1, none⟩) hg (.int .u8 y1)).setCell (p := ⟨g, 2, none⟩) hg (.int .u8 y2)).setCell (p := ⟨g, 3, none⟩) hg (.int .u8 y3)).setCell (p := ⟨g, 4, none⟩) hg (.int .u8 y4)).setCell (p := ⟨g, 5, none⟩) hg (.int .u8 y5)).setCell (p := ⟨g, 6, none⟩) hg (.int .u8 y6)).setCell (p := ⟨g, 7, none⟩) hg (.int .u8 y7)).setCell (p := ⟨g, 8, none⟩) hg (.int .u8 y8)).setCell (p := ⟨g, 9, none⟩) hg (.int .u8 y9)).setCell (p := ⟨g, 10, none⟩) hg (.int .u8 y10)).setCell (p := ⟨g, 11, none⟩) hg (.int .u8 y11)).setCell (p := ⟨g, 12, none⟩) hg (.int .u8 y12)).setCell (p := ⟨g, 13, none⟩) hg (.int .u8 y13)).setCell (p := ⟨g, 14, none⟩) hg (.int .u8 y14)).setCell (p := ⟨g, 15, none⟩) hg (.int .u8 y15))
end Go.Proofs.YtfdgihdmhdhpcaaDoor.P
