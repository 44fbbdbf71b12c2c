import Derived.Test.YtfdgihdmhdhpcaaDoorProg
import Derived.Below
import Derived.Deep.Draws
import Derived.Deep.AppendLies
import Derived.Maps.AppendAt
import Derived.OwnWalk
import Derived.Laws.BytesArg
import Derived.Laws.MakeOwn
import Derived.Laws.OwnMore
import Derived.Deep.OwnRows
import Derived.Tactics
import Derived.Lib.ConvBytes
import Derived.Laws.Slices
import Derived.WalkKit
import Derived.KernelRfl
import Derived.RowKit3
import Derived.Deep.LoopGhost
import Derived.Deep.QuietTactic
import Derived.BigQuiet
import Derived.WideLaws
import Derived.Deep.DeepCutAuto
import Derived.Deep.CutBlock
import Derived.Deep.RegionHeld3
import Derived.Laws.Rows
import Derived.Lib.AppendStr
import Derived.ArgAppend
import Derived.Laws.IdiomCopy
import Derived.OrdersHeld
import Derived.Laws.BitsLemmas
import Derived.RowKit
import Derived.Test.YtfdgihdmhdhpcaaDoorWWords
import Derived.Test.YtfdgihdmhdhpcaaDoorWLast
import Derived.Test.YtfdgihdmhdhpcaaDoorWTab
import Derived.Test.YtfdgihdmhdhpcaaDoorWFour
import Derived.Test.YtfdgihdmhdhpcaaDoorWQPut
import Derived.Test.YtfdgihdmhdhpcaaDoorWApart
import Derived.Test.YtfdgihdmhdhpcaaDoorWArr
import Derived.Test.YtfdgihdmhdhpcaaDoorWZeros
import Derived.Test.YtfdgihdmhdhpcaaDoorWFoot
import Derived.Test.YtfdgihdmhdhpcaaDoorWKept
import Derived.Test.YtfdgihdmhdhpcaaDoorWShare
import Derived.Test.YtfdgihdmhdhpcaaDoorWN
import Derived.Test.YtfdgihdmhdhpcaaDoorWFootNe
import Derived.Test.YtfdgihdmhdhpcaaDoorWAt
import Derived.Test.YtfdgihdmhdhpcaaDoorWEqStruct
import Derived.Test.YtfdgihdmhdhpcaaDoorWRepsOne
import Derived.Test.YtfdgihdmhdhpcaaDoorWInv
import Derived.Test.YtfdgihdmhdhpcaaDoorWInvWords
import Derived.Test.YtfdgihdmhdhpcaaDoorWGuard
import Derived.Test.YtfdgihdmhdhpcaaDoorWNEv
import Derived.Test.YtfdgihdmhdhpcaaDoorWMore
import Derived.Lib.Hide
import Derived.Outline
import Derived.Recover
import Derived.WalkLawsBesides
import Derived.Laws.Panics
import Derived.Laws.Pointers
import Derived.Tactics2
import Derived.Deep.RegionWith
import Derived.WalkSpells
import Derived.WalkMore
import Derived.Laws.Cover3
import Derived.Deep.MidRow
import Derived.Test.YtfdgihdmhdhpcaaDoorP0
import Derived.Test.YtfdgihdmhdhpcaaDoorC3
namespace Go.Proofs.YtfdgihdmhdhpcaaDoor.P
open Go.RowKit Go.Proofs.YtfdgihdmhdhpcaaDoorW.PrintWords Go.Proofs.YtfdgihdmhdhpcaaDoorW.PrintLast Go.Proofs.YtfdgihdmhdhpcaaDoorW.PrintMore
attribute [local go_sem] max2_int min2_int max_two min_two max_three min_three max_four min_four
set_option linter.unusedVariables false
set_option linter.unusedSimpArgs false

/-! Arrays in memory: a block of words. -/
def gw (xs : List Int) (i : Nat) : Int := xs.getD i 0
def AR (W : World) (g t : Nat) (xs : List Int) : Prop := W.heap[g]? = some (.cells (nums .u32 xs).toArray t (0, 0))
theorem AR.cell {W : World} {g t : Nat} {xs : List Int} (h : AR W g t xs) (i : Nat) (hi : i < xs.length) : W.cell? ⟨g, i, none⟩ = some (.int .u32 (gw xs i)) := by
  unfold AR at h
  simp [World.cell?, h, nums, gw, List.getElem?_eq_getElem hi, List.getD_eq_getElem?_getD]
theorem AR.frozen {W : World} {g t : Nat} {xs : List Int} (h : AR W g t xs) (i : Nat) : W.frozen? ⟨g, i, none⟩ = false := by
  unfold AR at h
  simp [World.frozen?, h]
theorem AR.lt {W : World} {g t : Nat} {xs : List Int} (h : AR W g t xs) : g < W.heap.size := (Array.getElem?_eq_some_iff.1 h).1
theorem AR.set {W : World} {g t : Nat} {xs : List Int} (h : AR W g t xs) (i : Nat) (v : Int) : AR (W.setCell ⟨g, i, none⟩ (.int .u32 v)) g t (xs.set i v) := by
  unfold AR at h ⊢
  rw [heap_setCell_same _ _ _ _ _ _ h]
  simp [nums, List.map_set]
theorem AR.other {W : World} {g t : Nat} {xs : List Int} (h : AR W g t xs) {p : Addr} (hp : g ≠ p.block) (u : Value) : AR (W.setCell p u) g t xs := (Below.heap_setCell W p u g hp).trans h
theorem AR.below {W W' : World} {g t : Nat} {xs : List Int} (h : AR W g t xs) (hb : Below W.heap.size W W') : AR W' g t xs := (hb.block g h.lt).trans h
theorem AR.new (W : World) (t : Nat) (xs : List Int) : AR (W.alloc (.cells (nums .u32 xs).toArray t)) W.heap.size t xs := by
  unfold AR
  simp [World.alloc, -World.alloc_eq]
theorem AR.alloc {W : World} {g t : Nat} {xs : List Int} (h : AR W g t xs) (o : Obj) : AR (W.alloc o) g t xs := h.below ((Below.refl _ _).alloc (Nat.le_refl _) o)
theorem AR.drew {W : World} {g t : Nat} {xs : List Int} (h : AR W g t xs) : AR W.drew g t xs := h
/-- The words of a block of 64 bytes, and what follows of them. -/
def M32 : Int := 4294967296
def ldv (b : List Int) : Int := b.foldl (fun n x => Go.bits .or .u32 ((n * 256) % 4294967296) (x % 4294967296)) 0
def rot (x : Int) (k : Nat) : Int := Go.bits .or .u32 (x * 2 ^ (32 - k) % 4294967296) (x / 2 ^ k)
def rr2 (x : Int) (a b : Nat) : Int := Go.bits .xor .u32 (Go.bits .xor .u32 0 (rot x a)) (rot x b)
def rr3 (x : Int) (a b c : Nat) : Int := Go.bits .xor .u32 (rr2 x a b) (rot x c)
def wnew (ws : List Int) (m : Nat) : Int :=
  (gw ws m + Go.bits .xor .u32 (rr2 (gw ws (m + 1)) 7 18) (gw ws (m + 1) / 8) + gw ws (m + 9) + Go.bits .xor .u32 (rr2 (gw ws (m + 14)) 17 19) (gw ws (m + 14) / 1024)) % 4294967296
def wval (b ws : List Int) (i : Nat) : Int := if i < 16 then ldv ((b.take (4 * i + 4)).drop (4 * i)) else wnew ws (i - 16)
def sched (b : List Int) : Nat → List Int
  | 0 => List.replicate 64 0
  | n + 1 => (sched b n).set n (wval b (sched b n) n)
theorem sched_length (b : List Int) : ∀ n, (sched b n).length = 64
  | 0 => by simp [sched]
  | n + 1 => by simp [sched, sched_length b n]
/-- What stands in memory while the schedule is made. -/
structure CS (w : World) (hs ws : List Int) (W : World) : Prop where
  b : Below w.heap.size w W
  h : AR W w.heap.size 137 hs
  r : AR W (w.heap.size + 1) 137 (List.replicate 8 0)
  x : AR W (w.heap.size + 1 + 1) 151 ws
theorem CS.below {w W W' : World} {hs ws : List Int} (h : CS w hs ws W) (hb : Below W.heap.size W W') : CS w hs ws W' := ⟨below_then h.b h.b.size hb, h.h.below hb, h.r.below hb, h.x.below hb⟩
theorem CS.set {w W : World} {hs ws : List Int} (h : CS w hs ws W) (i : Nat) (v : Int) : CS w hs (ws.set i v) (W.setCell ⟨w.heap.size + 1 + 1, i, none⟩ (.int .u32 v)) :=
  ⟨h.b.setCell (p := ⟨w.heap.size + 1 + 1, i, none⟩) (by simp; omega) _, h.h.other (by simp; omega) _, h.r.other (by simp) _, h.x.set i v⟩
theorem CS.start (w : World) (hs : List Int) : CS w hs (List.replicate 64 0) (((w.alloc (.cells (nums .u32 hs).toArray 137)).alloc (.cells (nums .u32 (List.replicate 8 0)).toArray 137)).alloc (.cells (nums .u32 (List.replicate 64 0)).toArray 151)) := by
  refine ⟨(((Below.refl _ _).alloc (Nat.le_refl _) _).alloc (by simp) _).alloc (by simp; omega) _, ((AR.new _ _ _).alloc _).alloc _, ?_, ?_⟩
  · have := (AR.new (w.alloc (.cells (nums .u32 hs).toArray 137)) 137 (List.replicate 8 0)).alloc (.cells (nums .u32 (List.replicate 64 0)).toArray 151)
    rwa [World.size_alloc] at this
  · have := AR.new ((w.alloc (.cells (nums .u32 hs).toArray 137)).alloc (.cells (nums .u32 (List.replicate 8 0)).toArray 137)) 151 (List.replicate 64 0)
    rwa [World.size_alloc, World.size_alloc] at this
theorem load_pure (l : List Int) (h : l.length = 4) : sha_load.f 6 l = some (ldv l) := by
  match l, h with
  | [a, b, c, d], _ => simp [sha_load.f, sha_load.l0, rd, ldv, wrap64]
theorem C_mid {w : World} {ad : Addr} {n lo hi : Nat} {l : List Int} (h : Kd.C (Kd.int .u8) w (some ad) n l) (h1 : lo ≤ hi) (h2 : hi ≤ l.length) : Kd.C (Kd.int .u8) w (some (ad.add lo)) (hi - lo) ((l.take hi).drop lo) := by
  have hn : l.length = n := h.1
  refine Kd.C_of_reads (d := (0 : Int)) (h1 := fun _ => rfl) ⟨by simp; omega, by have := h.2.1; omega, fun hp => ⟨_, rfl, fun j hj => ?_⟩⟩
  obtain ⟨ad', e, hc⟩ := (Kd.reads_of_C (d := (0 : Int)) h).2.2 (by omega)
  cases e
  have := hc (lo + j) (by omega)
  rw [Addr.add_add, this]
  simp [List.getD_eq_getElem?_getD, List.getElem?_drop, List.getElem?_take, show lo + j < hi by omega]
theorem rl_pure (x : Int) (k : Nat) (h1 : 1 ≤ k) (h2 : k ≤ 31) : bits_RotateLeft32.f x (wrap64 (-(k : Int))) = some (rot x k) := by
  have hk : k ∈ List.range 32 := by simp; omega
  have key : ∀ j ∈ List.range 32, 1 ≤ j → Go.bits .and .u64 (IntKind.u64.wrap (wrap64 (-(j : Int)))) 31 = 32 - j ∧ IntKind.u64.wrap (32 - (32 - (j : Int))) = j := by decide +kernel
  obtain ⟨e1, e2⟩ := key k hk h1
  unfold bits_RotateLeft32.f
  rw [e1, e2, if_pos (by omega), if_pos (by omega)]
  unfold rot shl shr
  congr 2
  · rw [show (IntKind.bits .u32) = 32 from rfl, Nat.min_eq_left (by omega), show ((32 : Int) - k).toNat = 32 - k by omega, IntKind.wrap_u32]
  · rw [show (IntKind.bits .u32) = 32 from rfl, Nat.min_eq_left (by omega), Int.toNat_natCast]
theorem rotr2 (x : Int) (a b : Nat) (h1 : 1 ≤ a) (h2 : a ≤ 31) (h3 : 1 ≤ b) (h4 : b ≤ 31) : sha_rotr.f 4 x [(a : Int), (b : Int)] = some (rr2 x a b) := by
  simp [sha_rotr.f, sha_rotr.l0, rd, wrap64, rr2]
  have e1 := rl_pure x a h1 h2
  have e2 := rl_pure x b h3 h4
  simp only [wrap64] at e1 e2
  rw [e1]; simp only [Option.bind_some]; rw [e2]; rfl
theorem rotr3 (x : Int) (a b c : Nat) (h1 : 1 ≤ a) (h2 : a ≤ 31) (h3 : 1 ≤ b) (h4 : b ≤ 31) (h5 : 1 ≤ c) (h6 : c ≤ 31) : sha_rotr.f 5 x [(a : Int), (b : Int), (c : Int)] = some (rr3 x a b c) := by
  simp [sha_rotr.f, sha_rotr.l0, rd, wrap64, rr3, rr2]
  have e1 := rl_pure x a h1 h2
  have e2 := rl_pure x b h3 h4
  have e3 := rl_pure x c h5 h6
  simp only [wrap64] at e1 e2 e3
  rw [e1]; simp only [Option.bind_some]; rw [e2]; simp only [Option.bind_some]; rw [e3]; rfl
theorem C_two (w : World) (a b : Int) : Kd.C (Kd.int .i64) (w.alloc (.cells #[.int .i64 a, .int .i64 b] 3)) (some ⟨w.heap.size, 0, none⟩) 2 [a, b] := by
  refine Kd.C_of_reads (d := (0 : Int)) (h1 := fun _ => rfl) ⟨rfl, by omega, fun _ => ⟨_, rfl, fun j hj => ?_⟩⟩
  rw [add_plain]
  match j, hj with
  | 0, _ => simp [World.cell?, World.alloc, -World.alloc_eq]
  | 1, _ => simp [World.cell?, World.alloc, -World.alloc_eq]
theorem C_three (w : World) (a b c : Int) : Kd.C (Kd.int .i64) (w.alloc (.cells #[.int .i64 a, .int .i64 b, .int .i64 c] 3)) (some ⟨w.heap.size, 0, none⟩) 3 [a, b, c] := by
  refine Kd.C_of_reads (d := (0 : Int)) (h1 := fun _ => rfl) ⟨rfl, by omega, fun _ => ⟨_, rfl, fun j hj => ?_⟩⟩
  rw [add_plain]
  match j, hj with
  | 0, _ => simp [World.cell?, World.alloc, -World.alloc_eq]
  | 1, _ => simp [World.cell?, World.alloc, -World.alloc_eq]
  | 2, _ => simp [World.cell?, World.alloc, -World.alloc_eq]
def KK : List Int := [1116352408, 1899447441, 3049323471, 3921009573, 961987163, 1508970993, 2453635748, 2870763221, 3624381080, 310598401, 607225278, 1426881987, 1925078388, 2162078206, 2614888103, 3248222580, 3835390401, 4022224774, 264347078, 604807628, 770255983, 1249150122, 1555081692, 1996064986, 2554220882, 2821834349, 2952996808, 3210313671, 3336571891, 3584528711, 113926993, 338241895, 666307205, 773529912, 1294757372, 1396182291, 1695183700, 1986661051, 2177026350, 2456956037, 2730485921, 2820302411, 3259730800, 3345764771, 3516065817, 3600352804, 4094571909, 275423344, 430227734, 506948616, 659060556, 883997877, 958139571, 1322822218, 1537002063, 1747873779, 1955562222, 2024104815, 2227730452, 2361852424, 2428436474, 2756734187, 3204031479, 3329325298]
def HH : List Int := [1779033703, 3144134277, 1013904242, 2773480762, 1359893119, 2600822924, 528734635, 1541459225]
/-- The two tables of sha, in memory. -/
structure TabW (W : World) : Prop where
  lt : 1 < W.heap.size
  k : ∀ i, i < 64 → W.cell? ⟨1, i, none⟩ = some (.int .u32 (gw KK i))
  h : ∀ i, i < 8 → W.cell? ⟨0, i, none⟩ = some (.int .u32 (gw HH i))
theorem TabW.below {W W' : World} (h : TabW W) (hb : Below W.heap.size W W') : TabW W' :=
  ⟨by have := hb.size; have := h.lt; omega, fun i hi => (hb.cell (p := ⟨1, i, none⟩) h.lt).trans (h.k i hi), fun i hi => (hb.cell (p := ⟨0, i, none⟩) (by have := h.lt; simp; omega)).trans (h.h i hi)⟩
/-- A round. -/
structure V8 where
  a : Int
  b : Int
  c : Int
  d : Int
  e : Int
  f : Int
  g : Int
  h : Int
def V8.l (v : V8) : List Int := [v.a, v.b, v.c, v.d, v.e, v.f, v.g, v.h]
def rT (v : V8) (k x : Int) : Int := v.h + rr3 v.e 6 11 25 + Go.bits .xor .u32 (Go.bits .and .u32 v.e v.f) (Go.bits .and .u32 (Go.bits .xor .u32 4294967295 v.e) v.g) + k + x
def rU (v : V8) : Int := rr3 v.a 2 13 22 + Go.bits .xor .u32 (Go.bits .xor .u32 (Go.bits .and .u32 v.a v.b) (Go.bits .and .u32 v.a v.c)) (Go.bits .and .u32 v.b v.c)
def rnd (v : V8) (k x : Int) : V8 := ⟨(rT v k x + rU v) % 4294967296, v.a, v.b, v.c, (v.d + rT v k x) % 4294967296, v.e, v.f, v.g⟩
def rounds (ws : List Int) (v : V8) : Nat → V8
  | 0 => v
  | n + 1 => rnd (rounds ws v n) (gw KK n) (gw ws n)
def vadd (hs vs : List Int) : Nat → List Int
  | 0 => vs
  | n + 1 => (vadd hs vs n).set n ((gw (vadd hs vs n) n + gw hs n) % 4294967296)
theorem vadd_length (hs vs : List Int) : ∀ n, (vadd hs vs n).length = vs.length
  | 0 => rfl
  | n + 1 => by simp [vadd, vadd_length hs vs n]
theorem V8.sets (v : V8) (x0 x1 x2 x3 x4 x5 x6 x7 : Int) : ((((((((v.l.set 0 x0).set 1 x1).set 2 x2).set 3 x3).set 4 x4).set 5 x5).set 6 x6).set 7 x7) = [x0, x1, x2, x3, x4, x5, x6, x7] := rfl
/-- A block's work. -/
def compP (v : V8) (b : List Int) : List Int := vadd v.l (rounds (sched b 64) v 64).l 8
theorem compP_length (v : V8) (b : List Int) : (compP v b).length = 8 := by rw [compP, vadd_length]; rfl
/-- What stands in memory during the rounds: b9 is the block of the working variables. -/
structure CV (w : World) (hs ws vs : List Int) (b9 : Nat) (W : World) : Prop where
  s : CS w hs ws W
  v : AR W b9 137 vs
  lt : w.heap.size + 1 + 1 < b9
theorem CV.below {w W W' : World} {hs ws vs : List Int} {b9 : Nat} (h : CV w hs ws vs b9 W) (hb : Below W.heap.size W W') : CV w hs ws vs b9 W' := ⟨h.s.below hb, h.v.below hb, h.lt⟩
theorem CS.other {w W : World} {hs ws : List Int} (h : CS w hs ws W) {p : Addr} (hp : w.heap.size + 1 + 1 < p.block) (u : Value) : CS w hs ws (W.setCell p u) :=
  ⟨h.b.setCell (by omega) _, h.h.other (by omega) _, h.r.other (by omega) _, h.x.other (by omega) _⟩
theorem CV.set {w W : World} {hs ws vs : List Int} {b9 : Nat} (h : CV w hs ws vs b9 W) (i : Nat) (x : Int) : CV w hs ws (vs.set i x) b9 (W.setCell ⟨b9, i, none⟩ (.int .u32 x)) := ⟨h.s.other h.lt _, h.v.set i x, h.lt⟩
theorem CV.start {w W : World} {hs ws : List Int} (h : CS w hs ws W) (vs : List Int) : CV w hs ws vs W.heap.size (W.alloc (.cells (nums .u32 vs).toArray 137)) :=
  ⟨h.below ((Below.refl _ _).alloc (Nat.le_refl _) _), AR.new W 137 vs, h.x.lt⟩
theorem TabW.rangeK {W : World} (h : TabW W) : W.rangeAt 1 0 (nums .u32 KK) := fun j v hv => by
  have hj : j < 64 := by have := (List.getElem?_eq_some_iff.1 hv).1; simpa [nums, KK] using this
  rw [Nat.zero_add, h.k j hj, ← hv]
  simp [nums, gw, List.getD_eq_getElem?_getD, List.getElem?_eq_getElem (show j < KK.length from hj)]
theorem TabW.rangeH {W : World} (h : TabW W) : W.rangeAt 0 0 (nums .u32 HH) := fun j v hv => by
  have hj : j < 8 := by have := (List.getElem?_eq_some_iff.1 hv).1; simpa [nums, HH] using this
  rw [Nat.zero_add, h.h j hj, ← hv]
  simp [nums, gw, List.getD_eq_getElem?_getD, List.getElem?_eq_getElem (show j < HH.length from hj)]
theorem AR.range {W : World} {g t : Nat} {xs : List Int} (h : AR W g t xs) : W.rangeAt g 0 (nums .u32 xs) := fun j v hv => by
  have hj : j < xs.length := by have := (List.getElem?_eq_some_iff.1 hv).1; simpa [nums] using this
  rw [Nat.zero_add, h.cell j hj, ← hv]
  simp [nums, gw, List.getD_eq_getElem?_getD, List.getElem?_eq_getElem hj]
theorem run_index_arr {t e n : Nat} {cs : Array Value} {i : Nat} {v : Value} {w : World} (h : Tryd.prog.underlying t = some (.array n e)) (hz : (Tryd.prog.info? e).map (·.size) = some 1) (hu : Tryd.prog.underlying e = some (.int .u32)) (hi : i < n) (hv : cs[i]? = some v) :
    (Instr.index t (.agg cs) (.int .i64 i)).run Tryd.prog w = .ok v w := by
  cases hq : Tryd.prog.info? e with
  | none => rw [hq] at hz; cases hz
  | some inf =>
    have hs : inf.size = 1 := by simpa [hq] using hz
    simp [Instr.index, run_underlying h, asIntOf, hi, go_sem, sizeOf, typeInfo, hq, hs, isAgg, run_underlying hu, hv]
theorem wpList_index {P : Program} {ops : Array Oper} {rest : List Oper} {op : Oper} {a : Act} {w : World} {Q : Exit → Act → World → Prop} (hgd : op.guard = none) (t : TypeId) (x y : Operand) (ho : op.op = .index t x y) (cs : Array Value) (i : Int) (v : Value)
    (hx : a.eval x = .agg cs) (hy : a.eval y = .int .i64 i) (hrun : (Instr.index t (.agg cs) (.int .i64 i)).run P w = .ok v w) (h : wpList P ops Q rest (a.put op.dst v) w) : wpList P ops Q (op :: rest) a w :=
  wpList_plain hgd fun _ hK => by
    unfold Oper.wp execOp
    simp only [ho, hx, hy, hrun, Sem.run_bind, Sem.run_pure, Result.andThen_ok, Sem.run_map]
    exact hK _ _ h
theorem wpList_move {P : Program} {ops : Array Oper} {rest : List Oper} {op : Oper} {a : Act} {w : World} {Q : Exit → Act → World → Prop} (hgd : op.guard = none) (x : Operand) (ho : op.op = .move x) (v : Value)
    (hx : a.eval x = v) (h : wpList P ops Q rest (a.put op.dst v) w) : wpList P ops Q (op :: rest) a w :=
  wpList_plain hgd fun _ hK => by
    unfold Oper.wp execOp
    simp only [ho, hx, Sem.run_bind, Sem.run_pure, Result.andThen_ok, Sem.run_map]
    exact hK _ _ h
theorem CV.set8 {w W : World} {hs ws : List Int} {v : V8} {b9 : Nat} (h : CV w hs ws v.l b9 W) (x0 x1 x2 x3 x4 x5 x6 x7 : Int) :
    CV w hs ws [x0, x1, x2, x3, x4, x5, x6, x7] b9 ((((((((W.setCell ⟨b9, 0, none⟩ (.int .u32 x0)).setCell ⟨b9, 1, none⟩ (.int .u32 x1)).setCell ⟨b9, 2, none⟩ (.int .u32 x2)).setCell ⟨b9, 3, none⟩ (.int .u32 x3)).setCell ⟨b9, 4, none⟩ (.int .u32 x4)).setCell ⟨b9, 5, none⟩ (.int .u32 x5)).setCell ⟨b9, 6, none⟩ (.int .u32 x6)).setCell ⟨b9, 7, none⟩ (.int .u32 x7)) := by
  rw [← V8.sets v]
  exact (((((((h.set 0 x0).set 1 x1).set 2 x2).set 3 x3).set 4 x4).set 5 x5).set 6 x6).set 7 x7
theorem nums8 {xs : List Int} (h : xs.length = 8) : (nums .u32 xs).toArray = #[.int .u32 (gw xs 0), .int .u32 (gw xs 1), .int .u32 (gw xs 2), .int .u32 (gw xs 3), .int .u32 (gw xs 4), .int .u32 (gw xs 5), .int .u32 (gw xs 6), .int .u32 (gw xs 7)] := by
  match xs, h with
  | [_, _, _, _, _, _, _, _], _ => rfl
theorem AR.set8 {W : World} {g t : Nat} (h : AR W g t (List.replicate 8 0)) (x0 x1 x2 x3 x4 x5 x6 x7 : Int) :
    ((((((((W.setCell ⟨g, 0, none⟩ (.int .u32 x0)).setCell ⟨g, 1, none⟩ (.int .u32 x1)).setCell ⟨g, 2, none⟩ (.int .u32 x2)).setCell ⟨g, 3, none⟩ (.int .u32 x3)).setCell ⟨g, 4, none⟩ (.int .u32 x4)).setCell ⟨g, 5, none⟩ (.int .u32 x5)).setCell ⟨g, 6, none⟩ (.int .u32 x6)).setCell ⟨g, 7, none⟩ (.int .u32 x7)).heap[g]? =
      some (.cells #[.int .u32 x0, .int .u32 x1, .int .u32 x2, .int .u32 x3, .int .u32 x4, .int .u32 x5, .int .u32 x6, .int .u32 x7] t (0, 0)) :=
  (((((((h.set 0 x0).set 1 x1).set 2 x2).set 3 x3).set 4 x4).set 5 x5).set 6 x6).set 7 x7
end Go.Proofs.YtfdgihdmhdhpcaaDoor.P
