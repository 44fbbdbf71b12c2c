import Derived.Test.YtfdgihdmhdhpcaaDoorProg
import Derived.Below
import Derived.Deep.Draws
import Derived.Deep.AppendLies
import Derived.Maps.AppendAt
import Derived.OwnWalk
import Derived.Laws.BytesArg
import Derived.Laws.MakeOwn
import Derived.Laws.OwnMore
import Derived.Deep.OwnRows
import Derived.Tactics
import Derived.Lib.ConvBytes
import Derived.Laws.Slices
import Derived.WalkKit
import Derived.KernelRfl
import Derived.RowKit3
import Derived.Deep.LoopGhost
import Derived.Deep.QuietTactic
import Derived.BigQuiet
import Derived.WideLaws
import Derived.Deep.DeepCutAuto
import Derived.Deep.CutBlock
import Derived.Deep.RegionHeld3
import Derived.Laws.Rows
import Derived.Lib.AppendStr
import Derived.ArgAppend
import Derived.Laws.IdiomCopy
import Derived.OrdersHeld
import Derived.Laws.BitsLemmas
import Derived.RowKit
import Derived.Test.YtfdgihdmhdhpcaaDoorWWords
import Derived.Test.YtfdgihdmhdhpcaaDoorWLast
import Derived.Test.YtfdgihdmhdhpcaaDoorWTab
import Derived.Test.YtfdgihdmhdhpcaaDoorWFour
import Derived.Test.YtfdgihdmhdhpcaaDoorWQPut
import Derived.Test.YtfdgihdmhdhpcaaDoorWApart
import Derived.Test.YtfdgihdmhdhpcaaDoorWArr
import Derived.Test.YtfdgihdmhdhpcaaDoorWZeros
import Derived.Test.YtfdgihdmhdhpcaaDoorWFoot
import Derived.Test.YtfdgihdmhdhpcaaDoorWKept
import Derived.Test.YtfdgihdmhdhpcaaDoorWShare
import Derived.Test.YtfdgihdmhdhpcaaDoorWN
import Derived.Test.YtfdgihdmhdhpcaaDoorWFootNe
import Derived.Test.YtfdgihdmhdhpcaaDoorWAt
import Derived.Test.YtfdgihdmhdhpcaaDoorWEqStruct
import Derived.Test.YtfdgihdmhdhpcaaDoorWRepsOne
import Derived.Test.YtfdgihdmhdhpcaaDoorWInv
import Derived.Test.YtfdgihdmhdhpcaaDoorWInvWords
import Derived.Test.YtfdgihdmhdhpcaaDoorWGuard
import Derived.Test.YtfdgihdmhdhpcaaDoorWNEv
import Derived.Test.YtfdgihdmhdhpcaaDoorWMore
import Derived.Lib.Hide
import Derived.Outline
import Derived.Recover
import Derived.WalkLawsBesides
import Derived.Laws.Panics
import Derived.Laws.Pointers
import Derived.Tactics2
import Derived.Deep.RegionWith
import Derived.WalkSpells
import Derived.WalkMore
import Derived.Laws.Cover3
import Derived.Deep.MidRow
import Derived.Deep.Upon
import Derived.Test.YtfdgihdmhdhpcaaDoorSA
import Derived.RangeFuncNested
import Derived.RangeFuncBound
import Derived.RangeFuncCalls
import Derived.RangeFuncLeaves
import Derived.RangeFuncBox
import Derived.RangeFuncFrom
import Derived.Shelf.Abstract
import Derived.Shelf.RegionOpen
import Derived.OwnWalkIn
import Derived.TacticsInMore
import Derived.LoopNIn
import Derived.LoopIn
import Derived.Sort.QuietIn
namespace Go.Proofs.YtfdgihdmhdhpcaaDoor.P
open Go.RowKit Go.Shelf Go.Proofs.YtfdgihdmhdhpcaaDoorW.PrintWords Go.Proofs.YtfdgihdmhdhpcaaDoorW.PrintLast Go.Proofs.YtfdgihdmhdhpcaaDoorW.PrintMore
attribute [local go_sem] max2_int min2_int max_two min_two max_three min_three max_four min_four
set_option linter.unusedVariables false
set_option linter.unusedSimpArgs false
/-! The padded message, its blocks, the hash. -/
def zc (n : Nat) : Nat := (120 - n % 64) % 64
def be (x : Int) : Nat → List Int
  | 0 => []
  | k + 1 => (x / 2 ^ (8 * k)) % 256 :: be x k
theorem be_length (x : Int) : ∀ k, (be x k).length = k
  | 0 => rfl
  | k + 1 => by simp [be, be_length x k]
def padP (b : List Int) : List Int := b ++ [128] ++ List.replicate (zc (b.length + 1)) 0 ++ be (8 * (b.length : Int)) 8
theorem padP_length (b : List Int) : (padP b).length = b.length + 1 + zc (b.length + 1) + 8 := by simp [padP, be_length]; omega
theorem padP_mod (b : List Int) : (padP b).length % 64 = 0 := by rw [padP_length]; unfold zc; omega
def chunk (m : List Int) (i : Nat) : List Int := (m.take (64 * i + 64)).drop (64 * i)
def of8 (l : List Int) : V8 := ⟨gw l 0, gw l 1, gw l 2, gw l 3, gw l 4, gw l 5, gw l 6, gw l 7⟩
def hshL {N : Nat} (m : List Int) (pre : List (Fin N)) : List Int := pre.foldl (fun h x => compP (of8 h) (chunk m x.1)) HH
theorem hshL_snoc {N : Nat} (m : List Int) (pre : List (Fin N)) (x : Fin N) : hshL m (pre ++ [x]) = compP (of8 (hshL m pre)) (chunk m x.1) := by simp [hshL]
theorem hshL_length {N : Nat} (m : List Int) (pre : List (Fin N)) : (hshL m pre).length = 8 := by
  rcases List.eq_nil_or_concat pre with rfl | ⟨p, x, rfl⟩
  · rfl
  · rw [List.concat_eq_append, hshL_snoc, compP_length]
def outw (xs : List Int) : Nat → List Int
  | 0 => []
  | n + 1 => outw xs n ++ be (gw xs n) 4
theorem outw_length (xs : List Int) : ∀ n, (outw xs n).length = 4 * n
  | 0 => rfl
  | n + 1 => by simp [outw, outw_length xs n, be_length]; omega
def sumP (b : List Int) : List Int := outw (hshL (padP b) (List.finRange ((padP b).length / 64))) 8
theorem sumP_length (b : List Int) : (sumP b).length = 32 := outw_length _ 8
theorem store_l0 (a : Int) : ∀ (n : Nat) (l : List Int) (k : Nat), n ≤ 8 → n < k → l.length + n < 140737488355328 → sha_store.l0 k l a ((n : Int) - 1) = some (l ++ be a n)
  | 0, l, k, _, hk, _ => by
    obtain ⟨k, rfl⟩ : ∃ m, k = m + 1 := ⟨k - 1, by omega⟩
    simp only [sha_store.l0]; rw [if_neg (by omega)]; simp [be]
  | n + 1, l, k, hn, hk, hl => by
    obtain ⟨k, rfl⟩ : ∃ m, k = m + 1 := ⟨k - 1, by omega⟩
    have e1 : wrap64 (8 * (((n + 1 : Nat) : Int) - 1)) = ((8 * n : Nat) : Int) := by unfold wrap64; omega
    have e2 : wrap64 ((((n + 1 : Nat) : Int) - 1) - 1) = (n : Int) - 1 := by unfold wrap64; omega
    simp only [sha_store.l0]
    rw [if_pos (by omega), e1, if_pos (by omega), if_pos (by omega), e2, store_l0 a n _ k (by omega) (by omega) (by simp; omega)]
    simp only [be, shr, Int.toNat_natCast]
    rw [show (IntKind.bits .u64) = 64 from rfl, Nat.min_eq_left (by omega)]
    simp
theorem store_pure (a : Int) (n : Nat) (l : List Int) (hn : n ≤ 8) (hl : l.length + n < 140737488355328) : sha_store.f 9 l a (n : Int) = some (l ++ be a n) := by
  unfold sha_store.f
  rw [show wrap64 ((n : Int) - 1) = (n : Int) - 1 by unfold wrap64; omega]
  exact store_l0 a n l 9 hn (by omega) hl
theorem gw_set (xs : List Int) (n i : Nat) (v : Int) (hn : n < xs.length) : gw (xs.set n v) i = if i = n then v else gw xs i := by
  unfold gw
  rw [List.getD_eq_getElem?_getD, List.getElem?_set, List.getD_eq_getElem?_getD]
  by_cases h : n = i
  · subst h; simp [hn]
  · rw [if_neg h, if_neg (fun e => h e.symm)]
theorem vadd_bound (hs vs : List Int) (hl : vs.length = 8) : ∀ n, n ≤ 8 → ∀ i, i < n → 0 ≤ gw (vadd hs vs n) i ∧ gw (vadd hs vs n) i < 4294967296
  | 0, _, i, hi => absurd hi (by omega)
  | n + 1, hn, i, hi => by
    rw [vadd, gw_set _ _ _ _ (by rw [vadd_length]; omega)]
    split
    · exact ⟨Int.emod_nonneg _ (by decide), Int.emod_lt_of_pos _ (by decide)⟩
    · exact vadd_bound hs vs hl n (by omega) i (by omega)
theorem hshL_bound {N : Nat} (m : List Int) (pre : List (Fin N)) (i : Nat) (hi : i < 8) : 0 ≤ gw (hshL m pre) i ∧ gw (hshL m pre) i < 4294967296 := by
  rcases List.eq_nil_or_concat pre with rfl | ⟨p, x, rfl⟩
  · have : ∀ i, i < 8 → 0 ≤ gw HH i ∧ gw HH i < 4294967296 := by decide
    exact this i hi
  · rw [List.concat_eq_append, hshL_snoc]
    exact vadd_bound _ _ rfl 8 (Nat.le_refl _) i hi
theorem AR.set8' {W : World} {g t : Nat} {xs : List Int} (h : AR W g t xs) (hl : xs.length = 8) (x0 x1 x2 x3 x4 x5 x6 x7 : Int) :
    AR ((((((((W.setCell ⟨g, 0, none⟩ (.int .u32 x0)).setCell ⟨g, 1, none⟩ (.int .u32 x1)).setCell ⟨g, 2, none⟩ (.int .u32 x2)).setCell ⟨g, 3, none⟩ (.int .u32 x3)).setCell ⟨g, 4, none⟩ (.int .u32 x4)).setCell ⟨g, 5, none⟩ (.int .u32 x5)).setCell ⟨g, 6, none⟩ (.int .u32 x6)).setCell ⟨g, 7, none⟩ (.int .u32 x7)) g t [x0, x1, x2, x3, x4, x5, x6, x7] := by
  match xs, hl with
  | [_, _, _, _, _, _, _, _], _ => exact (((((((h.set 0 x0).set 1 x1).set 2 x2).set 3 x3).set 4 x4).set 5 x5).set 6 x6).set 7 x7
/-- Eight stores into one block: the world behind them. -/
def set8 (W : World) (g : Nat) (xs : List Int) : World := ((((((((W.setCell ⟨g, 0, none⟩ (.int .u32 (gw xs 0))).setCell ⟨g, 1, none⟩ (.int .u32 (gw xs 1))).setCell ⟨g, 2, none⟩ (.int .u32 (gw xs 2))).setCell ⟨g, 3, none⟩ (.int .u32 (gw xs 3))).setCell ⟨g, 4, none⟩ (.int .u32 (gw xs 4))).setCell ⟨g, 5, none⟩ (.int .u32 (gw xs 5))).setCell ⟨g, 6, none⟩ (.int .u32 (gw xs 6))).setCell ⟨g, 7, none⟩ (.int .u32 (gw xs 7)))
theorem set8_other (W : World) (g : Nat) (xs : List Int) (k : Nat) (h : k ≠ g) : (set8 W g xs).heap[k]? = W.heap[k]? := by
  unfold set8
  rw [Below.heap_setCell _ _ _ k h, Below.heap_setCell _ _ _ k h, Below.heap_setCell _ _ _ k h, Below.heap_setCell _ _ _ k h, Below.heap_setCell _ _ _ k h, Below.heap_setCell _ _ _ k h, Below.heap_setCell _ _ _ k h, Below.heap_setCell _ _ _ k h]
theorem set8_below {B : Nat} {w W : World} (h : Below B w W) (g : Nat) (hg : B ≤ g) (xs : List Int) : Below B w (set8 W g xs) :=
  (((((((h.setCell (p := ⟨g, 0, none⟩) hg _).setCell (p := ⟨g, 1, none⟩) hg _).setCell (p := ⟨g, 2, none⟩) hg _).setCell (p := ⟨g, 3, none⟩) hg _).setCell (p := ⟨g, 4, none⟩) hg _).setCell (p := ⟨g, 5, none⟩) hg _).setCell (p := ⟨g, 6, none⟩) hg _).setCell (p := ⟨g, 7, none⟩) hg _
theorem set8_keeps (W : World) (g : Nat) (xs : List Int) : KeepsOthers W (set8 W g xs) :=
  (((((((KeepsOthers.setCell W _ _).trans (KeepsOthers.setCell _ _ _)).trans (KeepsOthers.setCell _ _ _)).trans (KeepsOthers.setCell _ _ _)).trans (KeepsOthers.setCell _ _ _)).trans (KeepsOthers.setCell _ _ _)).trans (KeepsOthers.setCell _ _ _)).trans (KeepsOthers.setCell _ _ _)
theorem keeps_below {W W' : World} (h : Below W.heap.size W W') : KeepsOthers W W' := ⟨h.size, fun k o hk _ => (h.block k (Array.getElem?_eq_some_iff.1 hk).1).trans hk⟩
theorem below_setCells {B : Nat} {w : World} (g : Nat) (hg : B ≤ g) : ∀ (vs : List Value) (o : Nat) (W : World), Below B w W → Below B w (W.setCells g o vs)
  | [], _, _, h => h
  | v :: vs, o, W, h => by
    unfold World.setCells
    exact below_setCells g hg vs (o + 1) _ (h.setCell (p := ⟨g, o, none⟩) hg v)
theorem results_cell_mid {P : Program} {fn : Func} {p : Tmp} {ty : TypeId} (h : fn.results = #[.cell p ty]) (tmps : Array Value) (w : World) (g : Nat) (cs : List Value) (d : TypeDesc)
    (hp : tmps.getD p undef = .pointer (some ⟨g, 0, none⟩)) (hc : w.rangeAt g 0 cs) (hu : P.underlying ty = some d) (hd : d.isRow = true) (hi : (P.info? ty).map (·.size) = some cs.length) :
    (results fn tmps).run P w = .ok (.agg cs.toArray) w := by
  have hp' : tmps[p]?.getD undef = .pointer (some ⟨g, 0, none⟩) := by simpa using hp
  simp [results, h, hp', asAddr, run_loadVar_mid w g 0 ty cs d hc hu hd hi]
theorem wpList_arrayAt {P : Program} {ops : Array Oper} {rest : List Oper} {op : Oper} {a : Act} {w : World} {Q : Exit → Act → World → Prop} (hgd : op.guard = none) (t e : TypeId) (n : Nat) (x : Operand) (ho : op.op = .sliceToArrayPointer t x)
    (ad : Option Addr) (len cap : Nat) (hx : a.eval x = .slice ad len cap) (hu : P.underlying t = some (.array n e)) (hn : n ≤ len) (h : wpList P ops Q rest (a.put op.dst (.pointer ad)) w) : wpList P ops Q (op :: rest) a w :=
  wpList_plain hgd fun _ hK => by
    unfold Oper.wp execOp
    simp only [ho, hx, run_arrayAt w t e n ad len cap hu hn, Sem.run_bind, Sem.run_pure, Result.andThen_ok, Sem.run_map]
    exact hK _ _ h
theorem C_range {W : World} {b n : Nat} {xs : List Int} (h : Kd.C (Kd.int .u8) W (some ⟨b, 0, none⟩) n xs) : W.rangeAt b 0 (nums .u8 xs) := fun j v hv => by
  have hn : xs.length = n := h.1
  have hj : j < xs.length := by have := (List.getElem?_eq_some_iff.1 hv).1; simpa [nums] using this
  obtain ⟨ad, e, hc⟩ := (Kd.reads_of_C (d := (0 : Int)) h).2.2 (by omega)
  cases e
  have h2 := hc j (by omega)
  rw [add_plain] at h2
  rw [Nat.zero_add, h2, ← hv]
  simp [nums, List.getD_eq_getElem?_getD, List.getElem?_eq_getElem hj]
theorem there_block {W : World} {g t n : Nat} {cs : Array Value} (h : W.heap[g]? = some (.cells cs t (0, 0))) (hn : cs.size = n) : W.there g 0 n := fun j hj => by
  rw [Nat.zero_add]
  exact ⟨by simp [World.cell?, h]; omega, by simp [World.frozen?, h]⟩
theorem own_size {β : Type} (B k : Nat) : OwnFrom B (fun (_ : β) (W : World) => k ≤ W.heap.size) := fun _ _ _ _ hs hg _ => Nat.le_trans hs hg.size
attribute [local go_sem] Oper.semAt_some
theorem run_store_func (P : Program) (w : World) (a : Addr) (f : Fn) (x y : Array Value) (m : Mode) : (store a (.func f x y) m).run P w = stored P w a (.func f x y) m := run_store P w a _ m rfl
attribute [local go_sem] run_store_func
def Z32 : List Int := List.replicate 32 0
/-- A block of bytes of its own type. -/
def AB (W : World) (g t : Nat) (xs : List Int) : Prop := W.heap[g]? = some (.cells (nums .u8 xs).toArray t (0, 0))
theorem AB.lt {W : World} {g t : Nat} {xs : List Int} (h : AB W g t xs) : g < W.heap.size := (Array.getElem?_eq_some_iff.1 h).1
theorem AB.below {W W' : World} {g t : Nat} {xs : List Int} (h : AB W g t xs) (hb : Below W.heap.size W W') : AB W' g t xs := (hb.block g h.lt).trans h
theorem AB.grown {W W' : World} {g t : Nat} {xs : List Int} {row : Option Nat} (h : AB W g t xs) (hg : W.grownBy W' row) (hn : some g ≠ row) : AB W' g t xs := (hg.block g h.lt hn).trans h
theorem AB.new (W : World) (t : Nat) (xs : List Int) : AB (W.alloc (.cells (nums .u8 xs).toArray t)) W.heap.size t xs := by
  unfold AB
  simp [World.alloc, -World.alloc_eq]
/-- What stands in memory while the message is padded: the row v, and the result's own cells at g. -/
structure PD (w : World) (v : Value) (xs : List Int) (W : World) : Prop where
  b : Below w.heap.size w W
  g : AB W w.heap.size 113 Z32
  r : Kd.R (Kd.int .u8) 5 W w.heap.size (fun k => k ≠ w.heap.size) v xs
theorem PD.grown {w W W' : World} {v v' : Value} {xs xs' : List Int} (h : PD w v xs W) (hg : W.grownBy W' v.ownBlock) (hb : Below w.heap.size w W') (ho : Kd.R (Kd.int .u8) 5 W' w.heap.size (fun k => k ≠ w.heap.size) v' xs') : PD w v' xs' W' :=
  ⟨hb, h.g.grown hg (fun e => h.r.1 _ e.symm rfl), ho⟩
theorem row_open {W : World} {base : Nat} {ok : Nat → Prop} {v : Value} {xs : List Int} (h : Kd.R (Kd.int .u8) 5 W base ok v xs) (hn : 0 < xs.length) :
    ∃ mb cap cur, v = .slice (some ⟨mb, 0, none⟩) xs.length cap ∧ base ≤ mb ∧ mb < W.heap.size ∧ W.heap[mb]? = some (.cells cur 5 (0, 0)) ∧ (∀ W' : World, W'.heap[mb]? = some (.cells cur 5 (0, 0)) → Kd.C (Kd.int .u8) W' (some ⟨mb, 0, none⟩) xs.length xs ∧ xs.length ≤ cap) := by
  have h' := h
  obtain ⟨h0, inner, hown, hr⟩ := h
  rcases hown.2 with ⟨rfl, hz⟩ | ⟨g, cap, cur, rfl, hg, hh, _⟩
  · have := hr.1
    obtain ⟨A, c, e⟩ := Kd.R_slice h'
    injection e with _ e2 _
    omega
  · refine ⟨g, cap, cur, rfl, hg, (Array.getElem?_eq_some_iff.1 hh).1, hh, fun W' hW => ?_⟩
    have h2 : Kd.R (Kd.int .u8) 5 W base (fun k => k = g) (.slice (some ⟨g, 0, none⟩) xs.length cap) xs :=
      Kd.R_flat (fun h => h) h' (fun k hk _ => by simpa [Value.ownBlock] using hk.symm)
    obtain ⟨A, c, e, hl, hC⟩ := Kd.R_reads (Kd.R_move (w1 := W') h2 (fun k hk => by rw [hk, hW, hh]))
    injection e with e1 _ e3
    subst e1 e3
    exact ⟨hC, hl⟩
/-- What stands in memory while the blocks are worked: the result's cells, the state at b4, the function behind it, the message at mb. -/
structure HD (w : World) (b4 mb : Nat) (cur : Array Value) (hs : List Int) (W : World) : Prop where
  b : Below w.heap.size w W
  g : AB W w.heap.size 113 Z32
  s : AR W b4 137 hs
  f : W.heap[b4 + 1]? = some (.cells #[.func (.func 92) #[] #[]] 138 (0, 0))
  m : W.heap[mb]? = some (.cells cur 5 (0, 0))
theorem HD.below {w W W' : World} {b4 mb : Nat} {cur : Array Value} {hs : List Int} (h : HD w b4 mb cur hs W) (hb : Below W.heap.size W W') : HD w b4 mb cur hs W' :=
  ⟨below_then h.b h.b.size hb, h.g.below hb, h.s.below hb, (hb.block _ (Array.getElem?_eq_some_iff.1 h.f).1).trans h.f, (hb.block _ (Array.getElem?_eq_some_iff.1 h.m).1).trans h.m⟩
theorem HD.start {w W : World} {v : Value} {xs : List Int} (h : PD w v xs W) {mb : Nat} {cur : Array Value} (hm : W.heap[mb]? = some (.cells cur 5 (0, 0))) :
    HD w W.heap.size mb cur HH ((W.alloc (.cells (nums .u32 HH).toArray 137)).alloc (.cells #[.func (.func 92) #[] #[]] 138)) := by
  have hb : Below W.heap.size W ((W.alloc (.cells (nums .u32 HH).toArray 137)).alloc (.cells #[.func (.func 92) #[] #[]] 138)) := ((Below.refl _ _).alloc (Nat.le_refl _) _).alloc (by simp) _
  refine ⟨below_then h.b h.b.size hb, h.g.below hb, (AR.new W 137 HH).alloc _, ?_, (hb.block _ (Array.getElem?_eq_some_iff.1 hm).1).trans hm⟩
  have h2 := World.alloc_heap_new (W.alloc (.cells (nums .u32 HH).toArray 137)) (.cells #[.func (.func 92) #[] #[]] 138)
  rwa [World.size_alloc] at h2
theorem HD.set8 {w W : World} {b4 mb : Nat} {cur : Array Value} {hs : List Int} (h : HD w b4 mb cur hs W) (hb : w.heap.size < b4) (hm : mb < b4) (hl : hs.length = 8) (xs : List Int) (hx : xs.length = 8) : HD w b4 mb cur xs (P.set8 W b4 xs) :=
  ⟨set8_below h.b b4 (by omega) xs, (set8_other W b4 xs _ (by omega)).trans h.g, by
    have e : [gw xs 0, gw xs 1, gw xs 2, gw xs 3, gw xs 4, gw xs 5, gw xs 6, gw xs 7] = xs := by
      match xs, hx with
      | [_, _, _, _, _, _, _, _], _ => rfl
    have h1 : AR (P.set8 W b4 xs) b4 137 [gw xs 0, gw xs 1, gw xs 2, gw xs 3, gw xs 4, gw xs 5, gw xs 6, gw xs 7] := h.s.set8' hl (gw xs 0) (gw xs 1) (gw xs 2) (gw xs 3) (gw xs 4) (gw xs 5) (gw xs 6) (gw xs 7)
    rw [e] at h1
    exact h1, (set8_other W b4 xs _ (by omega)).trans h.f, (set8_other W b4 xs _ (by omega)).trans h.m⟩
theorem own_cells {β : Type} (B k : Nat) (f : β → Array Value) (t : Nat) : OwnFrom B (fun s (W : World) => W.heap[k]? = some (.cells (f s) t (0, 0))) := fun s W W' row hs hg hr => by
  refine (hg.block k (Array.getElem?_eq_some_iff.1 hs).1 (fun e => ?_)).trans hs
  obtain ⟨_, o, ho, hc⟩ := hr k e.symm
  rw [show W.heap[k]? = _ from hs] at ho
  cases ho
  cases hc
theorem HD.own {β : Type} {w W0 : World} {b4 mb : Nat} {cur : Array Value} (f : β → List Int) (B : Nat) (hB : w.heap.size ≤ B) : OwnFrom B (fun s (W : World) => HD w b4 mb cur (f s) W) := fun s W W' row hs hg hr =>
  ⟨ownFrom_below (β := Unit) (Nat.le_refl _) hB () W W' row hs.b hg hr, own_cells (β := Unit) B w.heap.size (fun _ => (nums .u8 Z32).toArray) 113 () W W' row hs.g hg hr, own_cells (β := Unit) B b4 (fun _ => (nums .u32 (f s)).toArray) 137 () W W' row hs.s hg hr,
    own_cells (β := Unit) B (b4 + 1) (fun _ => #[.func (.func 92) #[] #[]]) 138 () W W' row hs.f hg hr, own_cells (β := Unit) B mb (fun _ => cur) 5 () W W' row hs.m hg hr⟩
set_option maxRecDepth 100000 in
set_option maxHeartbeats 1000000 in
theorem sum_calls (A0 : Option Addr) (c0 : Nat) (l0 : List Int) (w : World) (htab : TabW w) (hr : Kd.C (Kd.int .u8) w A0 l0.length l0) (hl : l0.length < 140737488355000) :
    Calls Tryd.prog 72 #[.slice A0 l0.length c0] w fun e w' => e = .returned (.agg (nums .u8 (sumP l0)).toArray) ∧ Below w.heap.size w w' := by
  have HT := Aside0.mk htab
  have HR := Aside0.mk hr
  have HL := Aside0.mk hl
  clear htab hr hl
  refine callsIn_wide.1 (callsIn_of_wp_marks (n := 3) Tryd.func72 rfl trivial ?_ rfl)
  simp only [Tryd.ntmps72, List.size_toArray, List.length_cons, List.length_nil, Nat.reduceAdd, Nat.reduceSub, Array.replicate_succ, Array.replicate_zero, List.push_toArray, List.append_toArray, List.nil_append, List.cons_append]
  refine wpIn_wide.2 ?_
  go_wp2_with (fail)
  have HG1 := Aside0.mk (AB.new w 113 Z32)
  rw [show (nums .u8 Z32).toArray = #[.int .u8 0, .int .u8 0, .int .u8 0, .int .u8 0, .int .u8 0, .int .u8 0, .int .u8 0, .int .u8 0, .int .u8 0, .int .u8 0, .int .u8 0, .int .u8 0, .int .u8 0, .int .u8 0, .int .u8 0, .int .u8 0, .int .u8 0, .int .u8 0, .int .u8 0, .int .u8 0, .int .u8 0, .int .u8 0, .int .u8 0, .int .u8 0, .int .u8 0, .int .u8 0, .int .u8 0, .int .u8 0, .int .u8 0, .int .u8 0, .int .u8 0, .int .u8 0] from rfl] at HG1
  have HB1 := Aside0.mk ((Below.refl _ w).alloc (Nat.le_refl _) (.cells #[.int .u8 0, .int .u8 0, .int .u8 0, .int .u8 0, .int .u8 0, .int .u8 0, .int .u8 0, .int .u8 0, .int .u8 0, .int .u8 0, .int .u8 0, .int .u8 0, .int .u8 0, .int .u8 0, .int .u8 0, .int .u8 0, .int .u8 0, .int .u8 0, .int .u8 0, .int .u8 0, .int .u8 0, .int .u8 0, .int .u8 0, .int .u8 0, .int .u8 0, .int .u8 0, .int .u8 0, .int .u8 0, .int .u8 0, .int .u8 0, .int .u8 0, .int .u8 0] 113))
  generalize hW1 : World.alloc _ _ = W1 at HG1 HB1 ⊢
  clear hW1
  refine (clone_calls A0 c0 l0 W1 (Kd.C_below HR.out HB1.out) (by have := HL.out; omega)).mono ?_
  rintro e W2 ⟨v, rfl, ho, hb⟩
  have hlt := HG1.out.lt
  have HP := Aside0.mk (show PD w v l0 W2 from ⟨below_then HB1.out HB1.out.size hb, HG1.out.below hb, Kd.R_lower (Kd.R_mono (Kd.R_bound ho) (fun k hk => by have := hk.2.1; omega)) HB1.out.size⟩)
  clear ho hb hlt HG1 HB1
  go_wp2_with (((with_reducible refine gate_builtin (b := .append) (xs := #[.tmp 11, .tmp 12]) rfl ?_); at_builtin; refine Kd.R_append (Kd.int .u8) (w0 := w) w.heap.size rfl (.tmp 11) (.tmp 12) 74 5 (.int .u8 0) 1 rfl Tryd.underlying74 info5 rfl (by decide) (by omega) v l0 128 [.int .u8 128] (fun k => k ≠ w.heap.size) (fun _ => False) rfl rfl rfl (fun _ hk => hk.elim) (fun k hk => by have := HP.out.g.lt; omega) HP.out.r HP.out.b HP.out.b.size (by have := HL.out; omega) ?_; intro v1 W3 ho hb hg hat; have HP1 := Aside0.mk (HP.out.grown hg hb ho); clear ho hb hg hat))
  go_loopg [3] (zc (l0.length + 1)) (fun kq v W => ∃ j : Nat, kq + j = zc (l0.length + 1) ∧ PD w v (l0 ++ [128] ++ List.replicate j 0) W)
  case atStart => exact ⟨0, rfl, by rw [List.replicate_zero, List.append_nil]; exact HP1.out⟩
  case round =>
    obtain ⟨j, hj, hP⟩ := hrel
    have HP := Aside0.mk hP
    clear hP HP1
    obtain ⟨Av, cv, hv⟩ := Kd.R_slice HP.out.r
    obtain ⟨N, hN⟩ : ∃ N : Nat, (l0 ++ [128] ++ List.replicate j 0).length = N := ⟨_, rfl⟩
    have HN2 := Aside0.mk (show N = l0.length + 1 + j by rw [← hN]; simp; omega)
    rw [hN] at hv
    have HN := Aside0.mk hN
    clear hN
    subst hv
    have hz : zc (l0.length + 1) < 64 := by unfold zc; omega
    by_cases h56 : N % 64 = 56
    · have hjz : j = zc (l0.length + 1) := by have := HN2.out; unfold zc at hj hz ⊢; omega
      have hb1 : ((N : Int) % 64 != 56) = false := by simp; omega
      have hb2 : (Int.tmod (N : Int) 64 != 56) = false := by rw [Int.tmod_eq_emod_of_nonneg (by omega)]; exact hb1
      have e1 : IntKind.u64.wrap (l0.length : Int) = (l0.length : Int) := by have := HL.out; simp [IntKind.wrap, IntKind.bits, IntKind.signed]; omega
      have e2 : IntKind.u64.wrap (8 * (l0.length : Int)) = 8 * (l0.length : Int) := by have := HL.out; simp [IntKind.wrap, IntKind.bits, IntKind.signed]; omega
      go_wp2_with (fail)
      clear e1 e2 hb1 hb2
      have hst := sha_store.calls 9 (fun k => k ≠ w.heap.size) (.slice Av N cv) _ (8 * (l0.length : Int)) 8 _ w wr HP.out.b HP.out.r (store_pure (8 * (l0.length : Int)) 8 (l0 ++ [128] ++ List.replicate j 0) (by decide) (by have := HL.out; rw [HN.out, HN2.out]; omega))
      rw [hjz, show l0 ++ [128] ++ List.replicate (zc (l0.length + 1)) 0 ++ be (8 * (l0.length : Int)) 8 = padP l0 from rfl] at hst
      refine hst.mono ?_
      clear hst
      rintro e W5 ⟨v5, rfl, ho, hb, hk⟩
      have HP5 := Aside0.mk (show PD w v5 (padP l0) W5 from ⟨hb, (hk.2 _ HP.out.g.lt (fun h => h rfl)).trans HP.out.g, Kd.R_mono ho (fun k hk => by have := HP.out.g.lt; rcases hk with h | h <;> omega)⟩)
      clear ho hb hk HP HN HN2
      have hth := (HT.out.below HP5.out.b).h
      have t0 := hth 0 (by decide)
      have t1 := hth 1 (by decide)
      have t2 := hth 2 (by decide)
      have t3 := hth 3 (by decide)
      have t4 := hth 4 (by decide)
      have t5 := hth 5 (by decide)
      have t6 := hth 6 (by decide)
      have t7 := hth 7 (by decide)
      clear hth
      obtain ⟨Am, cm, hm⟩ := Kd.R_slice HP5.out.r
      subst hm
      have HML := Aside0.mk (padP_length l0)
      generalize hmm : padP l0 = m at HP5 HML ⊢
      have HM := Aside0.mk hmm
      clear hmm
      go_wp2_with (fail)
      clear t0 t1 t2 t3 t4 t5 t6 t7
      obtain ⟨mb, cap, cur, hsl, hmg, hmlt, hmc, hmC⟩ := row_open HP5.out.r (by have := HML.out; omega)
      injection hsl with hA _ hc
      subst hA hc
      have HMC := Aside0.mk hmC
      clear hmC
      have HH6 := Aside0.mk (HD.start HP5.out hmc)
      rw [show (nums .u32 HH).toArray = #[.int .u32 (gw HH 0), .int .u32 (gw HH 1), .int .u32 (gw HH 2), .int .u32 (gw HH 3), .int .u32 (gw HH 4), .int .u32 (gw HH 5), .int .u32 (gw HH 6), .int .u32 (gw HH 7)] from nums8 rfl] at HH6
      have hwb : w.heap.size < W5.heap.size := HP5.out.g.lt
      generalize hb4 : W5.heap.size = b4 at HH6 hmlt hwb ⊢
      generalize hW6 : World.alloc _ _ = W6 at HH6 ⊢
      clear hW6 hmc hb4 HP5
      refine (callsIn_wide.1 (chunk_in 3 (some ⟨mb, 0, none⟩) m.length cm W6)).mono ?_
      rintro e w' ⟨rfl, rfl⟩
      have HH7 := Aside0.mk (HH6.out.below (((Below.refl _ W6).alloc (Nat.le_refl _) (.cells #[.slice (some ⟨mb, 0, none⟩) m.length cm] 74)).alloc (by simp) (.cells #[.int .i64 64] 3)))
      obtain ⟨W7, hW7⟩ : ∃ W7, (W6.alloc (.cells #[.slice (some ⟨mb, 0, none⟩) m.length cm] 74)).alloc (.cells #[.int .i64 64] 3) = W7 := ⟨_, rfl⟩
      have hz1 : W7.cell? ⟨W6.heap.size, 0, none⟩ = some (.slice (some ⟨mb, 0, none⟩) m.length cm) := by rw [← hW7]; exact ((Boxed.new W6 74 (.slice (some ⟨mb, 0, none⟩) m.length cm)).alloc _).cell
      have hz2 : W7.cell? ⟨W6.heap.size + 1, 0, none⟩ = some (.int .i64 64) := by
        have bN := Boxed.new (W6.alloc (.cells #[.slice (some ⟨mb, 0, none⟩) m.length cm] 74)) 3 (.int .i64 64)
        rw [World.size_alloc] at bN
        rw [← hW7]; exact bN.cell
      have hsz : W7.heap.size = W6.heap.size + 2 := by rw [← hW7]; simp
      have h46 := HH6.out.s.lt
      have h46f := (Array.getElem?_eq_some_iff.1 HH6.out.f).1
      rw [hW7] at HH7 ⊢
      generalize hB : W6.heap.size = B at hz1 hz2 hsz h46 h46f ⊢
      clear hW7 HH6 hB
      have h64 : m.length % 64 = 0 := by rw [← HM.out]; exact padP_mod l0
      have hreach : m.length ≤ 4611686018427387904 := by have := HML.out; have := HL.out; omega
      have HM64 := Aside0.mk h64
      have HRE := Aside0.mk hreach
      have HCM := Aside0.mk ((HMC.out W7 HH7.out.m).2)
      clear h64 hreach
      obtain ⟨ad, had⟩ : ∃ ad : Addr, (⟨mb, 0, none⟩ : Addr) = ad := ⟨_, rfl⟩
      rw [had] at hz1 HMC
      go_wp2_with (fail)
      try rw [had]
      have HAD := Aside0.mk had
      clear had
      refine (wpIn_wide (n := 3)).1 ?_
      refine wpIn_rangeFunc_ownF rfl (by omega) (gf := 104) (lb := #[.pointer (some ⟨B, 0, none⟩), .pointer (some ⟨B + 1, 0, none⟩)]) rfl trivial (enters_of Tryd.func104 (by kernel_rfl) rfl)
        (chunk_stops (3 - 1) (by omega) B (some ad) m.length cm HCM.out HM64.out HRE.out W7 (by omega) (fun _ => rfl) hz1 hz2) KC.trans (KC.putObj (by omega)) (Below.refl _ _) (fun _ => rfl)
        (fun pre W1 => HD w b4 mb cur (hshL m pre) W1 ∧ W7.heap.size ≤ W1.heap.size) (fun _ _ _ => False) (OwnFrom.and (HD.own (W0 := w) (fun pre => hshL m pre) _ HH7.out.b.size) (own_size _ _)) (fun _ => fun _ _ _ _ h _ _ => h) ⟨HH7.out, Nat.le_refl _⟩
        (fun x => { tmps := #[.slice A0 l0.length c0, undef, .pointer (some ⟨w.heap.size, 0, none⟩), .slice (some ad) m.length cm, .pointer (some ⟨b4, 0, none⟩), .pointer (some ⟨b4 + 1, 0, none⟩), .slice (some (ad.add (64 * x.1))) 64 64, undef, undef, undef, .slice A0 l0.length c0, v, .slice (some ⟨W2.heap.size, 0, none⟩) 1 1, v1, .slice Av N cv, .int .i64 (N : Int), .int .i64 ((N : Int) % 64), .bool false, u18, u19, u20, .slice Av N cv, .slice A0 l0.length c0, .int .i64 (l0.length : Int), .int .u64 (l0.length : Int), .int .u64 (8 * (l0.length : Int)), .slice (some ad) m.length cm, .agg #[.int .u32 (gw HH 0), .int .u32 (gw HH 1), .int .u32 (gw HH 2), .int .u32 (gw HH 3), .int .u32 (gw HH 4), .int .u32 (gw HH 5), .int .u32 (gw HH 6), .int .u32 (gw HH 7)], .slice (some ad) m.length cm, .func (.func 104) #[] #[.pointer (some ⟨B, 0, none⟩), .pointer (some ⟨B + 1, 0, none⟩)], .slice (some (ad.add (64 * x.1))) 64 64, undef, undef, undef, undef, undef, undef, undef, undef, undef, undef, undef, undef, undef, undef, undef, undef], defers := [] }) ?assign ?body ?done ?stop
      case assign =>
        intro l x W1 K hK
        gi_wp2
        exact hK
      case body =>
        rintro l pre ⟨x, hx⟩ W1 ⟨hJ, hJz⟩ hlen
        have hxl : 64 * x + 64 ≤ m.length := by have := HM64.out; omega
        have hC := (HMC.out W1 hJ.m).1
        have hch : Kd.C (Kd.int .u8) W1 (some (ad.add (64 * x))) 64 (chunk m x) := by
          have h := C_mid (lo := 64 * x) (hi := 64 * x + 64) hC (by omega) hxl
          rwa [show 64 * x + 64 - 64 * x = 64 by omega] at h
        have HCC := Aside0.mk (compress_calls (gw (hshL m pre) 0) (gw (hshL m pre) 1) (gw (hshL m pre) 2) (gw (hshL m pre) 3) (gw (hshL m pre) 4) (gw (hshL m pre) 5) (gw (hshL m pre) 6) (gw (hshL m pre) 7) (ad.add (64 * x)) 64 (chunk m x) W1 (HT.out.below hJ.b) hch (Nat.le_refl _))
        have q0 := hJ.s.cell 0 (by rw [hshL_length]; decide)
        have q1 := hJ.s.cell 1 (by rw [hshL_length]; decide)
        have q2 := hJ.s.cell 2 (by rw [hshL_length]; decide)
        have q3 := hJ.s.cell 3 (by rw [hshL_length]; decide)
        have q4 := hJ.s.cell 4 (by rw [hshL_length]; decide)
        have q5 := hJ.s.cell 5 (by rw [hshL_length]; decide)
        have q6 := hJ.s.cell 6 (by rw [hshL_length]; decide)
        have q7 := hJ.s.cell 7 (by rw [hshL_length]; decide)
        have qf : W1.cell? ⟨b4 + 1, 0, none⟩ = some (.func (.func 92) #[] #[]) := by simp [World.cell?, hJ.f]
        have HJ := Aside0.mk hJ
        clear hJ hC hch
        gi_wp2_with fail
        refine ⟨trivial, (CallsIn.inRound l (callsIn_wide.2 HCC.out)).mono ?_⟩
        intro e w2 ⟨he, hb⟩
        rw [nums8 (compP_length _ _)] at he
        subst he
        have HJ2 := Aside0.mk (HJ.out.below hb)
        have HBB := Aside0.mk hb
        clear q0 q1 q2 q3 q4 q5 q6 q7 qf hb
        have r0 := HJ2.out.s.cell 0 (by rw [hshL_length]; decide)
        have r1 := HJ2.out.s.cell 1 (by rw [hshL_length]; decide)
        have r2 := HJ2.out.s.cell 2 (by rw [hshL_length]; decide)
        have r3 := HJ2.out.s.cell 3 (by rw [hshL_length]; decide)
        have r4 := HJ2.out.s.cell 4 (by rw [hshL_length]; decide)
        have r5 := HJ2.out.s.cell 5 (by rw [hshL_length]; decide)
        have r6 := HJ2.out.s.cell 6 (by rw [hshL_length]; decide)
        have r7 := HJ2.out.s.cell 7 (by rw [hshL_length]; decide)
        have rf := HJ2.out.s.frozen
        gi_wp2_with fail
        refine ⟨(keeps_below HBB.out).trans (set8_keeps w2 b4 _), ⟨?_, ?_, ?_⟩, ?_, ?_⟩
        · exact (set8_below (B := 0) (HBB.out.mono (Nat.zero_le _)) b4 (Nat.zero_le _) _).size
        · exact (set8_other w2 b4 _ B (by omega)).trans (HBB.out.block B (by omega))
        · exact (set8_other w2 b4 _ (B + 1) (by omega)).trans (HBB.out.block (B + 1) (by omega))
        · rw [hshL_snoc]
          exact HJ2.out.set8 hwb hmlt (hshL_length _ _) _ (compP_length _ _)
        · exact Nat.le_trans hJz (set8_below (B := 0) (HBB.out.mono (Nat.zero_le _)) b4 (Nat.zero_le _) _).size
      case done =>
        rintro D ys Wd hDD rfl ⟨hJ, hJz⟩ hK
        have HHL := Aside0.mk (hshL_length m (List.finRange (m.length / 64)))
        have HBD := Aside0.mk (hshL_bound m (List.finRange (m.length / 64)))
        have HSP := Aside0.mk (show sumP l0 = outw (hshL m (List.finRange (m.length / 64))) 8 by rw [sumP, HM.out])
        generalize hshL m (List.finRange (m.length / 64)) = H at hJ HHL HBD HSP
        have q0 := hJ.s.cell 0 (by rw [HHL.out]; decide)
        have q1 := hJ.s.cell 1 (by rw [HHL.out]; decide)
        have q2 := hJ.s.cell 2 (by rw [HHL.out]; decide)
        have q3 := hJ.s.cell 3 (by rw [HHL.out]; decide)
        have q4 := hJ.s.cell 4 (by rw [HHL.out]; decide)
        have q5 := hJ.s.cell 5 (by rw [HHL.out]; decide)
        have q6 := hJ.s.cell 6 (by rw [HHL.out]; decide)
        have q7 := hJ.s.cell 7 (by rw [HHL.out]; decide)
        have HJ := Aside0.mk hJ
        have HK := Aside0.mk hK
        clear hJ hK
        go_wp2_with (fail)
        clear q0 q1 q2 q3 q4 q5 q6 q7
        rw [← nums8 HHL.out]
        generalize hHA : (nums .u32 H).toArray = HA
        have HHA := Aside0.mk hHA
        clear hHA
        go_loopw [7, 36] (fun v7 v36 W => ∃ n : Nat, n ≤ 8 ∧ v36 = .int .i64 n ∧ Below Wd.heap.size Wd W ∧ Kd.R (Kd.int .u8) 5 W Wd.heap.size (fun _ => True) v7 (outw H n)) (fun _ v _ => 8 - (intOf v).toNat)
        case atStart => exact ⟨0, by omega, rfl, Below.refl _ _, Kd.R_nil _ _ _ _ _⟩
        case round =>
          obtain ⟨n, hn, rfl, hbW, hRW⟩ := hrel
          have HBW := Aside0.mk hbW
          have HRW := Aside0.mk hRW
          clear hbW hRW
          by_cases hlt : n < 8
          · have hix : HA[n]? = some (.int .u32 (gw H n)) := by
              rw [← HHA.out]
              simp [nums, gw, List.getElem?_eq_getElem (show n < H.length by rw [HHL.out]; exact hlt)]
            have hbd := HBD.out n hlt
            have hcv : IntKind.u64.wrap (gw H n) = gw H n := by simp [IntKind.wrap, IntKind.bits, IntKind.signed]; omega
            have HBN := Aside0.mk hbd
            clear hbd
            go_upto_region 12 with (fail)
            refine wp_region_lit ?_
            refine wpList_index ?_ 137 (.tmp 35) (.tmp 36) ?_ HA (n : Int) (.int .u32 (gw H n)) ?_ ?_ (run_index_arr Tryd.underlying137 (by kernel_rfl) Tryd.underlying135 hlt hix) ?_
            · rfl
            · rfl
            · rfl
            · rfl
            clear hix
            go_wp2_with (fail)
            refine (sha_store.calls 9 (fun _ => True) _ _ (gw H n) 4 _ Wd _ HBW.out HRW.out (store_pure (gw H n) 4 (outw H n) (by decide) (by rw [outw_length]; omega))).mono ?_
            rintro e W8 ⟨v8, rfl, ho, hb, _⟩
            have HB8 := Aside0.mk hb
            have HR8 := Aside0.mk ho
            clear ho hb
            go_wp2_with (fail)
            go_roundw
            case rel => exact ⟨n + 1, by omega, by go_num, HB8.out, Kd.R_mono HR8.out (fun _ _ => trivial)⟩
            case measure => simp [intOf]; omega
          · obtain rfl : n = 8 := by omega
            go_upto_region 15 with (fail)
            obtain ⟨vb, vc, vcur, hv7, hvg, hvlt, hvm, hvC⟩ := row_open HRW.out (by rw [outw_length]; omega)
            rw [outw_length] at hv7
            subst hv7
            have hrg := C_range (hvC wr hvm).1
            have hln : (nums .u8 (outw H 8)).length = 32 := by simp [nums, outw_length]
            have hGW : AB wr w.heap.size 113 Z32 := (HBW.out.block _ HJ.out.g.lt).trans HJ.out.g
            have hth : wr.there w.heap.size 0 (nums .u8 (outw H 8)).toArray.size := there_block hGW (by rw [List.size_toArray, List.size_toArray, hln]; rfl)
            have hone : ((nums .u8 (outw H 8)).toArray.all (·.oneCell')) = true := all_oneCell_toArray (fun u hu => by
              obtain ⟨z, _, rfl⟩ := List.mem_map.1 hu
              rfl)
            have hi1 : (Tryd.prog.info? 113).map (·.size) = some (nums .u8 (outw H 8)).length := by rw [hln]; kernel_rfl
            have hi2 : (Tryd.prog.info? 113).map (·.size) = some (nums .u8 (outw H 8)).toArray.size := by rw [List.size_toArray, hln]; kernel_rfl
            refine wp_region_lit ?_
            refine wpList_move ?_ (.tmp 7) ?_ (.slice (some ⟨vb, 0, none⟩) (4 * 8) vc) ?_ ?_
            · rfl
            · rfl
            · rfl
            refine wpList_arrayAt ?_ 113 5 32 (.tmp 44) ?_ (some ⟨vb, 0, none⟩) (4 * 8) vc ?_ Tryd.underlying113 (by decide) ?_
            · rfl
            · rfl
            · rfl
            refine wpList_load_mid ?_ 113 (.tmp 45) ?_ vb 0 ?_ (nums .u8 (outw H 8)) _ hrg Tryd.underlying113 rfl hi1 ?_
            · rfl
            · rfl
            · rfl
            refine wpList_store_mid ?_ 113 (.tmp 2) (.tmp 46) ?_ w.heap.size 0 (nums .u8 (outw H 8)).toArray ?_ ?_ hth hi2 hone ?_
            · rfl
            · rfl
            · rfl
            · rfl
            have hWB : Below w.heap.size w wr := HJ.out.b.trans (HBW.out.mono HJ.out.b.size)
            have hfin := World.rangeAt_setCells_same wr w.heap.size 0 (nums .u8 (outw H 8)) (by rw [hln]; exact there_block hGW rfl)
            have hbfin := below_setCells w.heap.size (Nat.le_refl _) (nums .u8 (outw H 8)) 0 wr hWB
            have hDk : (wr.setCells w.heap.size 0 (nums .u8 (outw H 8))).heap[D]? = some (.deferred (some [])) := by
              have h1 := (HBW.out.block D (Array.getElem?_eq_some_iff.1 HK.out).1).trans HK.out
              rw [World.heap_setCells_other _ _ _ _ (Array.getElem?_eq_some_iff.1 h1).1 (fun e => by
                have h2 := hGW
                unfold AB at h2
                rw [← e, h1] at h2
                cases h2)]
              exact h1
            have HF := Aside0.mk hfin
            have HBF := Aside0.mk hbfin
            have HDK := Aside0.mk hDk
            clear hrg hth hone hi1 hi2 hWB hfin hbfin hDk hvC hvm hGW
            go_wp2_with (fail)
            refine leaves_marks Tryd.f72 _ _ (.agg (nums .u8 (outw H 8)).toArray) 3 [D] w _ (by simp) ?_ ?_ HBF.out ?_
            · intro E hE
              rw [List.mem_singleton.1 hE]
              exact HDK.out
            · intro E hE
              rw [List.mem_singleton.1 hE]
              have := HH7.out.b.size
              omega
            · intro W' hB' hk'
              refine ⟨results_cell_mid rfl _ _ w.heap.size (nums .u8 (outw H 8)) _ rfl (fun j u hj => hk' _ _ (HF.out j u hj)) Tryd.underlying113 rfl (by rw [hln]; kernel_rfl), ?_, hB'⟩
              rw [HSP.out]
      case stop =>
        intro D c pre W1 _ _ h _
        exact h.elim
    · have hb1 : ((N : Int) % 64 != 56) = true := by simp; omega
      have hb2 : (Int.tmod (N : Int) 64 != 56) = true := by rw [Int.tmod_eq_emod_of_nonneg (by omega)]; exact hb1
      have hjz : j < zc (l0.length + 1) := by have := HN2.out; unfold zc at hj hz ⊢; omega
      obtain ⟨k1, rfl⟩ : ∃ k1, gk = k1 + 1 := ⟨gk - 1, by omega⟩
      go_wp2_with (((with_reducible refine gate_builtin (b := .append) (xs := #[.tmp 18, .tmp 19]) rfl ?_); at_builtin; refine Kd.R_append (Kd.int .u8) (w0 := w) w.heap.size rfl (.tmp 18) (.tmp 19) 74 5 (.int .u8 0) 1 rfl Tryd.underlying74 info5 rfl (by decide) (by omega) (.slice Av N cv) (l0 ++ [128] ++ List.replicate j 0) 0 [.int .u8 0] (fun k => k ≠ w.heap.size) (fun _ => False) rfl rfl rfl (fun _ hk => hk.elim) (fun k hk => by have := HP.out.g.lt; omega) HP.out.r HP.out.b HP.out.b.size (by have := HL.out; rw [HN.out, HN2.out]; omega) ?_; intro v2 W4 ho hb hg hat; have HP2 := Aside0.mk (HP.out.grown hg hb ho); clear ho hb hg hat))
      go_roundg k1
      case measure => omega
      case rel => exact ⟨j + 1, by omega, by have h := HP2.out; rw [List.append_assoc, ← List.replicate_succ'] at h; exact h⟩
end Go.Proofs.YtfdgihdmhdhpcaaDoor.P
