import Derived.Test.YtfdgihdmhdhpcaaDoorProg
import Derived.Below
import Derived.Deep.Draws
import Derived.Deep.AppendLies
import Derived.Maps.AppendAt
import Derived.OwnWalk
import Derived.Laws.BytesArg
import Derived.Laws.MakeOwn
import Derived.Laws.OwnMore
import Derived.Deep.OwnRows
import Derived.Tactics
import Derived.Lib.ConvBytes
import Derived.Laws.Slices
import Derived.WalkKit
import Derived.KernelRfl
import Derived.RowKit3
import Derived.Deep.LoopGhost
import Derived.Deep.QuietTactic
import Derived.BigQuiet
import Derived.WideLaws
import Derived.Deep.DeepCutAuto
import Derived.Deep.CutBlock
import Derived.Deep.RegionHeld3
import Derived.Laws.Rows
import Derived.Lib.AppendStr
import Derived.ArgAppend
import Derived.Laws.IdiomCopy
import Derived.OrdersHeld
import Derived.Laws.BitsLemmas
import Derived.RowKit
import Derived.Test.YtfdgihdmhdhpcaaDoorWWords
import Derived.Test.YtfdgihdmhdhpcaaDoorWLast
import Derived.Test.YtfdgihdmhdhpcaaDoorWTab
import Derived.Test.YtfdgihdmhdhpcaaDoorWFour
import Derived.Test.YtfdgihdmhdhpcaaDoorWQPut
import Derived.Test.YtfdgihdmhdhpcaaDoorWApart
import Derived.Test.YtfdgihdmhdhpcaaDoorWArr
import Derived.Test.YtfdgihdmhdhpcaaDoorWZeros
import Derived.Test.YtfdgihdmhdhpcaaDoorWFoot
import Derived.Test.YtfdgihdmhdhpcaaDoorWKept
import Derived.Test.YtfdgihdmhdhpcaaDoorWShare
import Derived.Test.YtfdgihdmhdhpcaaDoorWN
import Derived.Test.YtfdgihdmhdhpcaaDoorWFootNe
import Derived.Test.YtfdgihdmhdhpcaaDoorWAt
import Derived.Test.YtfdgihdmhdhpcaaDoorWEqStruct
import Derived.Test.YtfdgihdmhdhpcaaDoorWRepsOne
import Derived.Test.YtfdgihdmhdhpcaaDoorWInv
import Derived.Test.YtfdgihdmhdhpcaaDoorWInvWords
import Derived.Test.YtfdgihdmhdhpcaaDoorWGuard
import Derived.Test.YtfdgihdmhdhpcaaDoorWNEv
import Derived.Test.YtfdgihdmhdhpcaaDoorWMore
import Derived.Lib.Hide
import Derived.Outline
import Derived.Recover
import Derived.WalkLawsBesides
import Derived.Laws.Panics
import Derived.Laws.Pointers
import Derived.Tactics2
import Derived.Deep.RegionWith
import Derived.WalkSpells
import Derived.WalkMore
import Derived.Laws.Cover3
import Derived.Deep.MidRow
import Derived.Deep.Upon
import Derived.Test.YtfdgihdmhdhpcaaDoorS6
namespace Go.Proofs.YtfdgihdmhdhpcaaDoor.P
open Go.RowKit Go.Proofs.YtfdgihdmhdhpcaaDoorW.PrintWords Go.Proofs.YtfdgihdmhdhpcaaDoorW.PrintLast Go.Proofs.YtfdgihdmhdhpcaaDoorW.PrintMore
attribute [local go_sem] max2_int min2_int max_two min_two max_three min_three max_four min_four
set_option linter.unusedVariables false
set_option linter.unusedSimpArgs false
def S38.l (d : S38) : List Int := [d.f0, d.f1, d.f2, d.f3, d.f4, d.f5, d.f6, d.f7, d.f8, d.f9, d.f10, d.f11, d.f12, d.f13, d.f14, d.f15]
def digBytes (l : List S38) : List Int := l.flatMap S38.l
theorem digBytes_take (l : List S38) (n : Nat) (h : n < l.length) : digBytes (l.take (n + 1)) = digBytes (l.take n) ++ (rd_T38 l n).l := by
  unfold digBytes
  rw [List.take_succ_eq_append_getElem h, List.flatMap_append]
  simp [rd_T38, List.getD_eq_getElem?_getD, List.getElem?_eq_getElem h]
theorem digBytes_length (l : List S38) : (digBytes l).length = 16 * l.length := by
  induction l with
  | nil => rfl
  | cons d l ih => rw [digBytes, List.flatMap_cons, List.length_append, ← digBytes, ih, List.length_cons]; simp [S38.l]; omega
theorem C_block {W : World} {b t : Nat} {xs : List Int} {cs : Array Value} (h : W.heap[b]? = some (.cells cs t (0, 0))) (hc : cs = (nums .u8 xs).toArray) (hl : xs.length ≤ 9223372036854775807) : Kd.C (Kd.int .u8) W (some ⟨b, 0, none⟩) xs.length xs := by
  subst hc
  refine Kd.C_of_reads (d := (0 : Int)) (h1 := fun _ => rfl) ⟨rfl, hl, fun _ => ⟨_, rfl, fun j hj => ?_⟩⟩
  rw [add_plain]
  simp [World.cell?, h, nums, List.getD_eq_getElem?_getD, List.getElem?_eq_getElem hj]
def wire_Digests.f (k : Nat) (l0 : List S38) : Option (List Int) := (wire_Int.f k (l0.length : Int)).bind fun t => (if t.length + 16 * l0.length < 140737488355328 then some (t ++ digBytes l0) else none)
theorem wire_Digests.mono : ∀ l0 k, LeO (wire_Digests.f k l0) (wire_Digests.f (k + 1) l0) := by
  intro l0 k
  unfold wire_Digests.f
  exact LeO.bind (wire_Int.mono _ k) (fun _ => LeO.refl _)
set_option maxRecDepth 100000 in
set_option maxHeartbeats 1000000 in
theorem wire_Digests.calls (k : Nat) (A0 : Option Addr) (c0 : Nat) (l0 : List S38) (r : List Int) (w : World) (hr0 : Kd.C k38 w A0 l0.length l0) (hc0 : l0.length ≤ c0) (h : wire_Digests.f k l0 = some r) :
    Calls Tryd.prog 69 #[.slice A0 l0.length c0] w fun e w' => ∃ v0_ : Value, e = .returned (v0_) ∧ Kd.R (Kd.int .u8) 5 w' w.heap.size (fun _ => True) v0_ r ∧ Below w.heap.size w w' := by
  have HR := Aside0.mk hr0
  clear hr0 hc0
  unfold wire_Digests.f at h
  obtain ⟨t, ht, h⟩ := Option.bind_eq_some_iff.1 h
  by_cases hl : t.length + 16 * l0.length < 140737488355328
  case neg => rw [if_neg hl] at h; cases h
  rw [if_pos hl] at h
  obtain rfl := Option.some.inj h
  have HJ := Aside0.mk ht
  have HL := Aside0.mk hl
  have hN : l0.length < 140737488355328 := by omega
  clear h ht hl
  go_enter Tryd.func69, Tryd.ntmps69
  go_wp2_with (fail)
  refine (wire_Int.calls k (l0.length : Int) t w HJ.out).mono ?_
  rintro e w1 ⟨v1, rfl, ho, hb⟩
  have HO := Aside0.mk ho
  have HB := Aside0.mk hb
  clear ho hb
  go_wp2_with (fail)
  go_loopw [3, 11] (fun v3 v11 W => ∃ n : Nat, n ≤ l0.length ∧ v11 = .int .i64 n ∧ Below w.heap.size w W ∧ Kd.R (Kd.int .u8) 5 W w.heap.size (fun _ => True) v3 (t ++ digBytes (l0.take n))) (fun _ v _ => l0.length - (intOf v).toNat)
  case atStart => exact ⟨0, Nat.zero_le _, rfl, HB.out, by simpa [digBytes] using HO.out⟩
  case round =>
    obtain ⟨n, hn, rfl, hbW, hRW⟩ := hrel
    have HBW := Aside0.mk hbW
    have HRW := Aside0.mk hRW
    clear hbW hRW
    by_cases hlt : n < l0.length
    · obtain ⟨ad, hA, hx⟩ := at_T38 (Kd.C_below HR.out HBW.out) n (by omega) (by omega)
      subst hA
      simp only [Int.toNat_natCast] at hx
      generalize hd : rd_T38 l0 n = d at hx
      obtain ⟨hx0, hx1, hx2, hx3, hx4, hx5, hx6, hx7, hx8, hx9, hx10, hx11, hx12, hx13, hx14, hx15⟩ := hx
      have HD := Aside0.mk hd
      clear hd
      go_wp2_with (((with_reducible refine gate_builtin (b := .append) (xs := #[.tmp 15, .tmp 16]) rfl ?_); at_builtin; refine Kd.R_append_row (Value.int .u8) 0 (h1 := fun _ => rfl) (w0 := w) w.heap.size rfl (.tmp 15) (.tmp 16) 74 5 (.int .u8 0) 1 rfl Tryd.underlying74 info5 rfl (by decide) u3 (t ++ digBytes (l0.take n)) d.l (some ⟨wr.heap.size, 0, none⟩) 16 16 (fun _ => True) rfl rfl (fun _ _ => trivial) (Kd.R_alloc HRW.out _) (C_block (xs := d.l) (World.alloc_heap_new wr _) rfl (by simp [S38.l])) (below_alloc HBW.out _) (by have := HBW.out.size; simp; omega) (by have := HL.out; rw [List.length_append, digBytes_length, List.length_take]; omega) ?_; intro v2 w2 ho hb hg hat; have HR2 := Aside0.mk ho; have HB2 := Aside0.mk hb; clear ho hb hg hat))
      go_roundw
      case rel => exact ⟨n + 1, by omega, by go_num, HB2.out, by have h := HR2.out; rw [← HD.out, List.append_assoc, ← digBytes_take l0 n hlt] at h; exact h⟩
      case measure => simp [intOf]; omega
    · obtain rfl : n = l0.length := by omega
      go_wp2_with (fail)
      go_ret
      exact ⟨_, rfl, by have h := HRW.out; rw [List.take_length] at h; exact h, HBW.out⟩
end Go.Proofs.YtfdgihdmhdhpcaaDoor.P
