/- Some small texts of the machine's walk, in one. -/
import Derived.Test.YtfdgihdmhdhpcaaDoorProg
import Derived.Below
import Derived.Deep.Draws
import Derived.Deep.AppendLies
import Derived.Maps.AppendAt
import Derived.OwnWalk
import Derived.Laws.BytesArg
import Derived.Laws.MakeOwn
import Derived.Laws.OwnMore
import Derived.Deep.OwnRows
import Derived.Tactics
import Derived.Lib.ConvBytes
import Derived.Laws.Slices
import Derived.WalkKit
import Derived.KernelRfl
import Derived.RowKit3
import Derived.Deep.LoopGhost
import Derived.Deep.QuietTactic
import Derived.BigQuiet
import Derived.WideLaws
import Derived.Deep.DeepCutAuto
import Derived.Deep.CutBlock
import Derived.Deep.RegionHeld3
import Derived.Laws.Rows
import Derived.Lib.AppendStr
import Derived.ArgAppend
import Derived.Laws.IdiomCopy
import Derived.OrdersHeld
import Derived.Laws.BitsLemmas
import Derived.RowKit
import Derived.Test.YtfdgihdmhdhpcaaDoorWWords
import Derived.Test.YtfdgihdmhdhpcaaDoorWLast
import Derived.Test.YtfdgihdmhdhpcaaDoorWTab
import Derived.Test.YtfdgihdmhdhpcaaDoorWFour
import Derived.Test.YtfdgihdmhdhpcaaDoorWQPut
import Derived.Test.YtfdgihdmhdhpcaaDoorWApart
import Derived.Test.YtfdgihdmhdhpcaaDoorWArr
import Derived.Test.YtfdgihdmhdhpcaaDoorWZeros
import Derived.Test.YtfdgihdmhdhpcaaDoorWFoot
import Derived.Test.YtfdgihdmhdhpcaaDoorWKept
import Derived.Test.YtfdgihdmhdhpcaaDoorWShare
import Derived.Test.YtfdgihdmhdhpcaaDoorWN
import Derived.Test.YtfdgihdmhdhpcaaDoorWFootNe
import Derived.Test.YtfdgihdmhdhpcaaDoorWAt
import Derived.Test.YtfdgihdmhdhpcaaDoorWEqStruct
import Derived.Test.YtfdgihdmhdhpcaaDoorWRepsOne
import Derived.Test.YtfdgihdmhdhpcaaDoorWInv
import Derived.Test.YtfdgihdmhdhpcaaDoorWInvWords
import Derived.Test.YtfdgihdmhdhpcaaDoorWGuard
import Derived.Test.YtfdgihdmhdhpcaaDoorWNEv
import Derived.Test.YtfdgihdmhdhpcaaDoorWMore
import Derived.Lib.Hide
import Derived.Outline
import Derived.Recover
import Derived.WalkLawsBesides
import Derived.Laws.Panics
import Derived.Laws.Pointers
import Derived.Tactics2
import Derived.Deep.RegionWith
import Derived.WalkSpells
import Derived.WalkMore
import Derived.Laws.Cover3
import Derived.Deep.MidRow
import Derived.Deep.Upon
import Derived.ChangeKeysEq
import Derived.Test.YtfdgihdmhdhpcaaDoorS8
section
namespace Go.Proofs.YtfdgihdmhdhpcaaDoor.P
open Go.RowKit Go.Proofs.YtfdgihdmhdhpcaaDoorW.PrintWords Go.Proofs.YtfdgihdmhdhpcaaDoorW.PrintLast Go.Proofs.YtfdgihdmhdhpcaaDoorW.PrintMore
attribute [local go_sem] max2_int min2_int max_two min_two max_three min_three max_four min_four
set_option linter.unusedVariables false
set_option linter.unusedSimpArgs false
theorem part5 (xs : List Int) (i : Nat) (hi : i < xs.length) (w : World) : (part 5 (nums .u8 xs).toArray i).run Tryd.prog w = .ok (.int .u8 (gw xs i)) w := by
  have hv : (nums .u8 xs).toArray[i]? = some (.int .u8 (gw xs i)) := by simp [nums, gw, List.getElem?_eq_getElem hi]
  have hz := info5
  cases hq : Tryd.prog.info? 5 with
  | none => rw [hq] at hz; cases hz
  | some inf =>
    have hs : inf.size = 1 := by rw [hq] at hz; simp at hz; omega
    simp [part, go_sem, sizeOf, typeInfo, hq, hs, isAgg, run_underlying Tryd.underlying5, hv]
theorem eqItems38 (d : Nat) (xs ys : List Int) (w : World) : ∀ is : List Nat, (∀ i ∈ is, i < xs.length ∧ i < ys.length) → (Op.eqItems (d + 1) 5 1 (nums .u8 xs).toArray (nums .u8 ys).toArray is).run Tryd.prog w = .ok (is.all fun i => gw xs i == gw ys i) w
  | [], _ => by simp [Op.eqItems]
  | i :: is, h => by
    have h1 := h i List.mem_cons_self
    simp only [Op.eqItems, Nat.mul_one, Sem.run_bind, part5 xs i h1.1, part5 ys i h1.2, Result.andThen_ok, run_equalIn_int w d 5 .u8 .u8 _ _ Tryd.underlying5, List.all_cons]
    cases hb : (gw xs i == gw ys i)
    · simp
    · simp only [Bool.not_true, Bool.false_eq_true, if_false, Bool.true_and]
      exact eqItems38 d xs ys w is (fun j hj => h j (List.mem_cons_of_mem _ hj))
def S38.beq (x y : S38) : Bool := (List.range 16).all fun i => gw x.l i == gw y.l i
theorem S38.beq_iff (x y : S38) : x.beq y = true ↔ x = y := by
  constructor
  · intro h
    have h2 : ∀ i, i < 16 → gw x.l i = gw y.l i := fun i hi => by simpa using List.all_eq_true.1 h i (List.mem_range.2 hi)
    cases x
    cases y
    simp only [S38.mk.injEq]
    exact ⟨h2 0 (by decide), h2 1 (by decide), h2 2 (by decide), h2 3 (by decide), h2 4 (by decide), h2 5 (by decide), h2 6 (by decide), h2 7 (by decide), h2 8 (by decide), h2 9 (by decide), h2 10 (by decide), h2 11 (by decide), h2 12 (by decide), h2 13 (by decide), h2 14 (by decide), h2 15 (by decide)⟩
  · rintro rfl
    simp [S38.beq]
theorem eqg38 : Tryd.prog.eqGuardType Tryd.prog.depth 38 = false := by kernel_rfl
theorem cells5 : Tryd.prog.cellsOf 5 = 1 := by kernel_rfl
theorem equal38 (d : Nat) (x y : S38) (w : World) : (Op.equalIn (d + 1 + 1) 38 (.agg #[.int .u8 x.f0, .int .u8 x.f1, .int .u8 x.f2, .int .u8 x.f3, .int .u8 x.f4, .int .u8 x.f5, .int .u8 x.f6, .int .u8 x.f7, .int .u8 x.f8, .int .u8 x.f9, .int .u8 x.f10, .int .u8 x.f11, .int .u8 x.f12, .int .u8 x.f13, .int .u8 x.f14, .int .u8 x.f15]) (.agg #[.int .u8 y.f0, .int .u8 y.f1, .int .u8 y.f2, .int .u8 y.f3, .int .u8 y.f4, .int .u8 y.f5, .int .u8 y.f6, .int .u8 y.f7, .int .u8 y.f8, .int .u8 y.f9, .int .u8 y.f10, .int .u8 y.f11, .int .u8 y.f12, .int .u8 y.f13, .int .u8 y.f14, .int .u8 y.f15])).run Tryd.prog w = .ok (x.beq y) w := by
  cases hq : Tryd.prog.info? 5 with
  | none => have hz := info5; rw [hq] at hz; cases hz
  | some inf =>
    rw [run_equalIn_array w (d + 1) _ _ Tryd.underlying38 hq, cells5]
    exact eqItems38 d x.l y.l w (List.range 16) (fun i hi => by simpa [S38.l] using hi)
theorem run_neq38 (x y : S38) (w : World) : (binOp .neq 38 (.agg #[.int .u8 x.f0, .int .u8 x.f1, .int .u8 x.f2, .int .u8 x.f3, .int .u8 x.f4, .int .u8 x.f5, .int .u8 x.f6, .int .u8 x.f7, .int .u8 x.f8, .int .u8 x.f9, .int .u8 x.f10, .int .u8 x.f11, .int .u8 x.f12, .int .u8 x.f13, .int .u8 x.f14, .int .u8 x.f15]) (.agg #[.int .u8 y.f0, .int .u8 y.f1, .int .u8 y.f2, .int .u8 y.f3, .int .u8 y.f4, .int .u8 y.f5, .int .u8 y.f6, .int .u8 y.f7, .int .u8 y.f8, .int .u8 y.f9, .int .u8 y.f10, .int .u8 y.f11, .int .u8 y.f12, .int .u8 y.f13, .int .u8 y.f14, .int .u8 y.f15])).run Tryd.prog w = .ok (.bool (!(x.beq y))) w := by
  rw [run_neq_struct, equal38]; rfl
theorem run_eql38 (x y : S38) (w : World) : (binOp .eql 38 (.agg #[.int .u8 x.f0, .int .u8 x.f1, .int .u8 x.f2, .int .u8 x.f3, .int .u8 x.f4, .int .u8 x.f5, .int .u8 x.f6, .int .u8 x.f7, .int .u8 x.f8, .int .u8 x.f9, .int .u8 x.f10, .int .u8 x.f11, .int .u8 x.f12, .int .u8 x.f13, .int .u8 x.f14, .int .u8 x.f15]) (.agg #[.int .u8 y.f0, .int .u8 y.f1, .int .u8 y.f2, .int .u8 y.f3, .int .u8 y.f4, .int .u8 y.f5, .int .u8 y.f6, .int .u8 y.f7, .int .u8 y.f8, .int .u8 y.f9, .int .u8 y.f10, .int .u8 y.f11, .int .u8 y.f12, .int .u8 y.f13, .int .u8 y.f14, .int .u8 y.f15])).run Tryd.prog w = .ok (.bool (x.beq y)) w := by
  rw [run_eql_struct, equal38]; rfl
/-- The digest at an address, as the walk loads it. -/
def D16At (w : World) (a : Addr) (d : S38) : Prop := (Instr.loadAt 38 (.pointer (some a))).run Tryd.prog w = .ok (.agg #[.int .u8 d.f0, .int .u8 d.f1, .int .u8 d.f2, .int .u8 d.f3, .int .u8 d.f4, .int .u8 d.f5, .int .u8 d.f6, .int .u8 d.f7, .int .u8 d.f8, .int .u8 d.f9, .int .u8 d.f10, .int .u8 d.f11, .int .u8 d.f12, .int .u8 d.f13, .int .u8 d.f14, .int .u8 d.f15]) w
theorem run_load38 {w : World} {a : Addr} {d : S38} (h : D16At w a d) : (Instr.loadAt 38 (.pointer (some a))).run Tryd.prog w = .ok (.agg #[.int .u8 d.f0, .int .u8 d.f1, .int .u8 d.f2, .int .u8 d.f3, .int .u8 d.f4, .int .u8 d.f5, .int .u8 d.f6, .int .u8 d.f7, .int .u8 d.f8, .int .u8 d.f9, .int .u8 d.f10, .int .u8 d.f11, .int .u8 d.f12, .int .u8 d.f13, .int .u8 d.f14, .int .u8 d.f15]) w := h
set_option maxRecDepth 100000 in
theorem d16_of {w : World} {A : Option Addr} {l : List S38} (h : Kd.C k38 w A l.length l) (n : Nat) (hn : n < l.length) : ∃ ad, A = some ad ∧ D16At w (ad.add (n * 16)) (rd_T38 l n) := by
  obtain ⟨ad, hA, hx⟩ := at_T38 h n (by omega) (by omega)
  simp only [Int.toNat_natCast] at hx
  generalize rd_T38 l n = d at hx
  obtain ⟨hx0, hx1, hx2, hx3, hx4, hx5, hx6, hx7, hx8, hx9, hx10, hx11, hx12, hx13, hx14, hx15⟩ := hx
  refine ⟨ad, hA, ?_⟩
  unfold D16At
  go_simp
end Go.Proofs.YtfdgihdmhdhpcaaDoor.P
end
section
namespace Go.Proofs.YtfdgihdmhdhpcaaDoor.P
open Go.RowKit Go.Proofs.YtfdgihdmhdhpcaaDoorW.PrintWords Go.Proofs.YtfdgihdmhdhpcaaDoorW.PrintLast Go.Proofs.YtfdgihdmhdhpcaaDoorW.PrintMore
attribute [local go_sem] max2_int min2_int max_two min_two max_three min_three max_four min_four
set_option linter.unusedVariables false
set_option linter.unusedSimpArgs false
theorem beq38_text (x0 x1 x2 x3 x4 x5 x6 x7 x8 x9 x10 x11 x12 x13 x14 x15 y0 y1 y2 y3 y4 y5 y6 y7 y8 y9 y10 y11 y12 y13 y14 y15 : Int) : (⟨x0, x1, x2, x3, x4, x5, x6, x7, x8, x9, x10, x11, x12, x13, x14, x15⟩ : S38).beq ⟨y0, y1, y2, y3, y4, y5, y6, y7, y8, y9, y10, y11, y12, y13, y14, y15⟩ = (x0 == y0 && (x1 == y1 && (x2 == y2 && (x3 == y3 && (x4 == y4 && (x5 == y5 && (x6 == y6 && (x7 == y7 && (x8 == y8 && (x9 == y9 && (x10 == y10 && (x11 == y11 && (x12 == y12 && (x13 == y13 && (x14 == y14 && (x15 == y15)))))))))))))))) := by
  show ((List.range 16).all fun i => gw _ i == gw _ i) = _
  rw [show List.range 16 = [0, 1, 2, 3, 4, 5, 6, 7, 8, 9, 10, 11, 12, 13, 14, 15] from rfl]
  simp only [List.all_cons, List.all_nil, Bool.and_true]
  rfl
theorem nbeq38_text (x0 x1 x2 x3 x4 x5 x6 x7 x8 x9 x10 x11 x12 x13 x14 x15 y0 y1 y2 y3 y4 y5 y6 y7 y8 y9 y10 y11 y12 y13 y14 y15 : Int) : (!(⟨x0, x1, x2, x3, x4, x5, x6, x7, x8, x9, x10, x11, x12, x13, x14, x15⟩ : S38).beq ⟨y0, y1, y2, y3, y4, y5, y6, y7, y8, y9, y10, y11, y12, y13, y14, y15⟩) = (!(x0 == y0) || (!(x1 == y1) || (!(x2 == y2) || (!(x3 == y3) || (!(x4 == y4) || (!(x5 == y5) || (!(x6 == y6) || (!(x7 == y7) || (!(x8 == y8) || (!(x9 == y9) || (!(x10 == y10) || (!(x11 == y11) || (!(x12 == y12) || (!(x13 == y13) || (!(x14 == y14) || (!(x15 == y15))))))))))))))))) := by
  rw [beq38_text]
  simp only [Bool.not_and]
theorem eqA38 (w : World) (x0 x1 x2 x3 x4 x5 x6 x7 x8 x9 x10 x11 x12 x13 x14 x15 y0 y1 y2 y3 y4 y5 y6 y7 y8 y9 y10 y11 y12 y13 y14 y15 : Int) : (binOp .eql 38 (.agg #[.int .u8 x0, .int .u8 x1, .int .u8 x2, .int .u8 x3, .int .u8 x4, .int .u8 x5, .int .u8 x6, .int .u8 x7, .int .u8 x8, .int .u8 x9, .int .u8 x10, .int .u8 x11, .int .u8 x12, .int .u8 x13, .int .u8 x14, .int .u8 x15]) (.agg #[.int .u8 y0, .int .u8 y1, .int .u8 y2, .int .u8 y3, .int .u8 y4, .int .u8 y5, .int .u8 y6, .int .u8 y7, .int .u8 y8, .int .u8 y9, .int .u8 y10, .int .u8 y11, .int .u8 y12, .int .u8 y13, .int .u8 y14, .int .u8 y15])).run Tryd.prog w = .ok (.bool (x0 == y0 && (x1 == y1 && (x2 == y2 && (x3 == y3 && (x4 == y4 && (x5 == y5 && (x6 == y6 && (x7 == y7 && (x8 == y8 && (x9 == y9 && (x10 == y10 && (x11 == y11 && (x12 == y12 && (x13 == y13 && (x14 == y14 && (x15 == y15))))))))))))))))) w := by
  rw [← beq38_text]
  exact run_eql38 ⟨x0, x1, x2, x3, x4, x5, x6, x7, x8, x9, x10, x11, x12, x13, x14, x15⟩ ⟨y0, y1, y2, y3, y4, y5, y6, y7, y8, y9, y10, y11, y12, y13, y14, y15⟩ w
theorem neqA38 (w : World) (x0 x1 x2 x3 x4 x5 x6 x7 x8 x9 x10 x11 x12 x13 x14 x15 y0 y1 y2 y3 y4 y5 y6 y7 y8 y9 y10 y11 y12 y13 y14 y15 : Int) : (binOp .neq 38 (.agg #[.int .u8 x0, .int .u8 x1, .int .u8 x2, .int .u8 x3, .int .u8 x4, .int .u8 x5, .int .u8 x6, .int .u8 x7, .int .u8 x8, .int .u8 x9, .int .u8 x10, .int .u8 x11, .int .u8 x12, .int .u8 x13, .int .u8 x14, .int .u8 x15]) (.agg #[.int .u8 y0, .int .u8 y1, .int .u8 y2, .int .u8 y3, .int .u8 y4, .int .u8 y5, .int .u8 y6, .int .u8 y7, .int .u8 y8, .int .u8 y9, .int .u8 y10, .int .u8 y11, .int .u8 y12, .int .u8 y13, .int .u8 y14, .int .u8 y15])).run Tryd.prog w = .ok (.bool (!(x0 == y0) || (!(x1 == y1) || (!(x2 == y2) || (!(x3 == y3) || (!(x4 == y4) || (!(x5 == y5) || (!(x6 == y6) || (!(x7 == y7) || (!(x8 == y8) || (!(x9 == y9) || (!(x10 == y10) || (!(x11 == y11) || (!(x12 == y12) || (!(x13 == y13) || (!(x14 == y14) || (!(x15 == y15)))))))))))))))))) w := by
  rw [← nbeq38_text]
  exact run_neq38 ⟨x0, x1, x2, x3, x4, x5, x6, x7, x8, x9, x10, x11, x12, x13, x14, x15⟩ ⟨y0, y1, y2, y3, y4, y5, y6, y7, y8, y9, y10, y11, y12, y13, y14, y15⟩ w
end Go.Proofs.YtfdgihdmhdhpcaaDoor.P
end
