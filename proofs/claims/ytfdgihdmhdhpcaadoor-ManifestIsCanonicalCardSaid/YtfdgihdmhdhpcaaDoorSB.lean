/- Some small texts of the machine's walk, in one. -/
import Derived.Test.YtfdgihdmhdhpcaaDoorProg
import Derived.Below
import Derived.Deep.Draws
import Derived.Deep.AppendLies
import Derived.Maps.AppendAt
import Derived.OwnWalk
import Derived.Laws.BytesArg
import Derived.Laws.MakeOwn
import Derived.Laws.OwnMore
import Derived.Deep.OwnRows
import Derived.Tactics
import Derived.Lib.ConvBytes
import Derived.Laws.Slices
import Derived.WalkKit
import Derived.KernelRfl
import Derived.RowKit3
import Derived.Deep.LoopGhost
import Derived.Deep.QuietTactic
import Derived.BigQuiet
import Derived.WideLaws
import Derived.Deep.DeepCutAuto
import Derived.Deep.CutBlock
import Derived.Deep.RegionHeld3
import Derived.Laws.Rows
import Derived.Lib.AppendStr
import Derived.ArgAppend
import Derived.Laws.IdiomCopy
import Derived.OrdersHeld
import Derived.Laws.BitsLemmas
import Derived.RowKit
import Derived.Test.YtfdgihdmhdhpcaaDoorWWords
import Derived.Test.YtfdgihdmhdhpcaaDoorWLast
import Derived.Test.YtfdgihdmhdhpcaaDoorWTab
import Derived.Test.YtfdgihdmhdhpcaaDoorWFour
import Derived.Test.YtfdgihdmhdhpcaaDoorWQPut
import Derived.Test.YtfdgihdmhdhpcaaDoorWApart
import Derived.Test.YtfdgihdmhdhpcaaDoorWArr
import Derived.Test.YtfdgihdmhdhpcaaDoorWZeros
import Derived.Test.YtfdgihdmhdhpcaaDoorWFoot
import Derived.Test.YtfdgihdmhdhpcaaDoorWKept
import Derived.Test.YtfdgihdmhdhpcaaDoorWShare
import Derived.Test.YtfdgihdmhdhpcaaDoorWN
import Derived.Test.YtfdgihdmhdhpcaaDoorWFootNe
import Derived.Test.YtfdgihdmhdhpcaaDoorWAt
import Derived.Test.YtfdgihdmhdhpcaaDoorWEqStruct
import Derived.Test.YtfdgihdmhdhpcaaDoorWRepsOne
import Derived.Test.YtfdgihdmhdhpcaaDoorWInv
import Derived.Test.YtfdgihdmhdhpcaaDoorWInvWords
import Derived.Test.YtfdgihdmhdhpcaaDoorWGuard
import Derived.Test.YtfdgihdmhdhpcaaDoorWNEv
import Derived.Test.YtfdgihdmhdhpcaaDoorWMore
import Derived.Lib.Hide
import Derived.Outline
import Derived.Recover
import Derived.WalkLawsBesides
import Derived.Laws.Panics
import Derived.Laws.Pointers
import Derived.Tactics2
import Derived.Deep.RegionWith
import Derived.WalkSpells
import Derived.WalkMore
import Derived.Laws.Cover3
import Derived.Deep.MidRow
import Derived.Deep.Upon
import Derived.ChangeKeysEq
import Derived.Test.YtfdgihdmhdhpcaaDoorS6
import Derived.Test.YtfdgihdmhdhpcaaDoorA1
section
namespace Go.Proofs.YtfdgihdmhdhpcaaDoor.P
open Go.RowKit Go.Proofs.YtfdgihdmhdhpcaaDoorW.PrintWords Go.Proofs.YtfdgihdmhdhpcaaDoorW.PrintLast Go.Proofs.YtfdgihdmhdhpcaaDoorW.PrintMore
attribute [local go_sem] max2_int min2_int max_two min_two max_three min_three max_four min_four
set_option linter.unusedVariables false
set_option linter.unusedSimpArgs false
def d16 (l : List Int) (i : Nat) : S38 := ⟨gw l i, gw l (i + 1), gw l (i + 2), gw l (i + 3), gw l (i + 4), gw l (i + 5), gw l (i + 6), gw l (i + 7), gw l (i + 8), gw l (i + 9), gw l (i + 10), gw l (i + 11), gw l (i + 12), gw l (i + 13), gw l (i + 14), gw l (i + 15)⟩
def digs (l : List Int) (a : Nat) : Nat → List S38
  | 0 => []
  | n + 1 => digs l a n ++ [d16 l (a + 16 * n)]
theorem digs_length (l : List Int) (a : Nat) : ∀ n, (digs l a n).length = n
  | 0 => rfl
  | n + 1 => by rw [digs, List.length_append, digs_length l a n]; rfl
theorem b16_of {W : World} {A : Option Addr} {n : Nat} {l : List Int} (h : Kd.C (Kd.int .u8) W A n l) (i : Nat) (hi : i + 16 ≤ l.length) : ∃ ad, A = some ad ∧ W.cell? (ad.add i) = some (.int .u8 (d16 l i).f0) ∧ W.cell? ⟨(ad.add i).block, (ad.add i).off + 1, none⟩ = some (.int .u8 (d16 l i).f1) ∧ W.cell? ⟨(ad.add i).block, (ad.add i).off + 2, none⟩ = some (.int .u8 (d16 l i).f2) ∧ W.cell? ⟨(ad.add i).block, (ad.add i).off + 3, none⟩ = some (.int .u8 (d16 l i).f3) ∧ W.cell? ⟨(ad.add i).block, (ad.add i).off + 4, none⟩ = some (.int .u8 (d16 l i).f4) ∧ W.cell? ⟨(ad.add i).block, (ad.add i).off + 5, none⟩ = some (.int .u8 (d16 l i).f5) ∧ W.cell? ⟨(ad.add i).block, (ad.add i).off + 6, none⟩ = some (.int .u8 (d16 l i).f6) ∧ W.cell? ⟨(ad.add i).block, (ad.add i).off + 7, none⟩ = some (.int .u8 (d16 l i).f7) ∧ W.cell? ⟨(ad.add i).block, (ad.add i).off + 8, none⟩ = some (.int .u8 (d16 l i).f8) ∧ W.cell? ⟨(ad.add i).block, (ad.add i).off + 9, none⟩ = some (.int .u8 (d16 l i).f9) ∧ W.cell? ⟨(ad.add i).block, (ad.add i).off + 10, none⟩ = some (.int .u8 (d16 l i).f10) ∧ W.cell? ⟨(ad.add i).block, (ad.add i).off + 11, none⟩ = some (.int .u8 (d16 l i).f11) ∧ W.cell? ⟨(ad.add i).block, (ad.add i).off + 12, none⟩ = some (.int .u8 (d16 l i).f12) ∧ W.cell? ⟨(ad.add i).block, (ad.add i).off + 13, none⟩ = some (.int .u8 (d16 l i).f13) ∧ W.cell? ⟨(ad.add i).block, (ad.add i).off + 14, none⟩ = some (.int .u8 (d16 l i).f14) ∧ W.cell? ⟨(ad.add i).block, (ad.add i).off + 15, none⟩ = some (.int .u8 (d16 l i).f15) := by
  have hn : l.length = n := h.1
  obtain ⟨ad, e, hc0⟩ := (Kd.reads_of_C (d := (0 : Int)) h).2.2 (by omega)
  have hc : ∀ j, j < l.length → W.cell? (ad.add j) = some (.int .u8 (gw l j)) := fun j hj => hc0 j (by omega)
  exact ⟨ad, e, by have h_ := hc i (by omega); exact h_, by rw [← add_field _ _ 1 (by omega)]; exact hc (i + 1) (by omega), by rw [← add_field _ _ 2 (by omega)]; exact hc (i + 2) (by omega), by rw [← add_field _ _ 3 (by omega)]; exact hc (i + 3) (by omega), by rw [← add_field _ _ 4 (by omega)]; exact hc (i + 4) (by omega), by rw [← add_field _ _ 5 (by omega)]; exact hc (i + 5) (by omega), by rw [← add_field _ _ 6 (by omega)]; exact hc (i + 6) (by omega), by rw [← add_field _ _ 7 (by omega)]; exact hc (i + 7) (by omega), by rw [← add_field _ _ 8 (by omega)]; exact hc (i + 8) (by omega), by rw [← add_field _ _ 9 (by omega)]; exact hc (i + 9) (by omega), by rw [← add_field _ _ 10 (by omega)]; exact hc (i + 10) (by omega), by rw [← add_field _ _ 11 (by omega)]; exact hc (i + 11) (by omega), by rw [← add_field _ _ 12 (by omega)]; exact hc (i + 12) (by omega), by rw [← add_field _ _ 13 (by omega)]; exact hc (i + 13) (by omega), by rw [← add_field _ _ 14 (by omega)]; exact hc (i + 14) (by omega), by rw [← add_field _ _ 15 (by omega)]; exact hc (i + 15) (by omega)⟩
def wire_GetDigests.f (k : Nat) (l0 : List Int) : Option (List S38 × Int × Int) := (wire_count.f k l0 16).bind fun t => (if t.2.2 = 0 then (if 0 ≤ t.1 ∧ 0 ≤ t.2.1 ∧ t.2.1 + 16 * t.1 ≤ (l0.length : Int) ∧ 16 * t.1 ≤ 140737488355328 then some (digs l0 t.2.1.toNat t.1.toNat, t.2.1 + 16 * t.1, 0) else none) else some ([], 0, t.2.2))
theorem wire_GetDigests.mono : ∀ l0 k, LeO (wire_GetDigests.f k l0) (wire_GetDigests.f (k + 1) l0) := by
  intro l0 k
  unfold wire_GetDigests.f
  exact LeO.bind (wire_count.mono _ _ k) (fun _ => LeO.refl _)
end Go.Proofs.YtfdgihdmhdhpcaaDoor.P
end
section
namespace Go.Proofs.YtfdgihdmhdhpcaaDoor.P
open Go.RowKit Go.Proofs.YtfdgihdmhdhpcaaDoorW.PrintWords Go.Proofs.YtfdgihdmhdhpcaaDoorW.PrintLast Go.Proofs.YtfdgihdmhdhpcaaDoorW.PrintMore
attribute [local go_sem] max2_int min2_int max_two min_two max_three min_three max_four min_four
set_option linter.unusedVariables false
set_option linter.unusedSimpArgs false
attribute [local go_sem] run_arrayAt38
set_option maxRecDepth 100000 in
set_option maxHeartbeats 2000000 in
theorem wire_GetDigests.calls (k : Nat) (A0 : Option Addr) (c0 : Nat) (l0 : List Int) (r1 : List S38) (r2 r3 : Int) (w : World) (hr0 : Kd.C (Kd.int .u8) w A0 l0.length l0) (hc0 : l0.length ≤ c0) (h : wire_GetDigests.f k l0 = some (r1, r2, r3)) :
    Calls Tryd.prog 97 #[.slice A0 l0.length c0] w fun e w' => ∃ v0_ : Value, e = .returned (.tuple #[v0_, .int .i64 r2, .int .i64 r3]) ∧ Kd.R k38 38 w' w.heap.size (fun _ => True) v0_ r1 ∧ Below w.heap.size w w' := by
  have HR := Aside0.mk hr0
  have HC := Aside0.mk hc0
  have hN : l0.length ≤ 9223372036854775807 := hr0.2.1
  clear hr0
  unfold wire_GetDigests.f at h
  obtain ⟨⟨t1, t2, t3⟩, ht, h⟩ := Option.bind_eq_some_iff.1 h
  have HJ := Aside0.mk ht
  clear ht
  go_enter Tryd.func97, Tryd.ntmps97
  go_wp2_with (fail)
  refine (wire_count.calls k A0 c0 l0 16 t1 t2 t3 w HR.out HC.out HJ.out).mono ?_
  rintro e w1 ⟨rfl, hb⟩
  have HB := Aside0.mk hb
  clear hb
  by_cases h3 : t3 = 0
  case neg =>
    have h3' : ¬ ((t1, t2, t3) : Int × Int × Int).2.2 = 0 := h3
    rw [if_neg h3'] at h
    have hh := Option.some.inj h
    have hb3 : (t3 != 0) = true := by simpa using h3
    have HH := Aside0.mk hh
    clear h hh h3 h3'
    go_wp2_with (fail)
    go_ret3
    obtain ⟨rfl, rfl, rfl⟩ := HH.out
    exact ⟨_, rfl, Kd.R_nil _ _ _ _ _, HB.out⟩
  rw [if_pos (show ((t1, t2, t3) : Int × Int × Int).2.2 = 0 from h3)] at h
  by_cases hx : 0 ≤ t1 ∧ 0 ≤ t2 ∧ t2 + 16 * t1 ≤ (l0.length : Int) ∧ 16 * t1 ≤ 140737488355328
  case neg => rw [if_neg hx] at h; cases h
  rw [if_pos hx] at h
  obtain ⟨N, rfl⟩ := Int.eq_ofNat_of_zero_le hx.1
  obtain ⟨a, rfl⟩ := Int.eq_ofNat_of_zero_le hx.2.1
  have hle : a + 16 * N ≤ l0.length := by omega
  have hle2 : 16 * N ≤ 140737488355328 := by omega
  have HH := Aside0.mk (Option.some.inj h)
  subst h3
  clear h hx
  go_wp2_with (fail)
  go_loopw [6, 8, 19] (fun v6 v8 v19 W => ∃ j : Nat, j ≤ N ∧ v6 = .int .i64 ((a + 16 * j : Nat) : Int) ∧ v19 = .int .i64 j ∧ Below w.heap.size w W ∧ Kd.R k38 38 W w.heap.size (fun _ => True) v8 (digs l0 a j)) (fun _ _ v _ => N - (intOf v).toNat)
  case atStart => exact ⟨0, Nat.zero_le _, by simp, rfl, HB.out, Kd.R_nil _ _ _ _ _⟩
  case round =>
    obtain ⟨j, hj, rfl, rfl, hbW, hRW⟩ := hrel
    have HBW := Aside0.mk hbW
    have HRW := Aside0.mk hRW
    clear hbW hRW
    by_cases hlt : j < N
    · obtain ⟨ad, hA, hy⟩ := b16_of (Kd.C_below HR.out HBW.out) (a + 16 * j) (by omega)
      subst hA
      generalize hd : d16 l0 (a + 16 * j) = d at hy
      have HD := Aside0.mk hd
      clear hd
      obtain ⟨hy0, hy1, hy2, hy3, hy4, hy5, hy6, hy7, hy8, hy9, hy10, hy11, hy12, hy13, hy14, hy15⟩ := hy
      go_wp2_with (((with_reducible refine gate_builtin (b := .append) (xs := #[.tmp 21, .tmp 29]) rfl ?_); at_builtin; refine Kd.R_append k38 (w0 := w) w.heap.size rfl (.tmp 21) (.tmp 29) 22 38 _ 16 rfl Tryd.underlying22 info38 rfl (by show 0 < 16; decide) (by omega) u8 (digs l0 a j) d [.int .u8 d.f0, .int .u8 d.f1, .int .u8 d.f2, .int .u8 d.f3, .int .u8 d.f4, .int .u8 d.f5, .int .u8 d.f6, .int .u8 d.f7, .int .u8 d.f8, .int .u8 d.f9, .int .u8 d.f10, .int .u8 d.f11, .int .u8 d.f12, .int .u8 d.f13, .int .u8 d.f14, .int .u8 d.f15] (fun _ => True) (fun _ => False) rfl rfl (k38_mkM _ _ _ d) (fun _ hk => hk.elim) (fun _ _ => trivial) HRW.out HBW.out HBW.out.size (by rw [digs_length]; omega) ?_; intro v2 w2 ho hb hg hat; have HR2 := Aside0.mk ho; have HB2 := Aside0.mk hb; clear ho hb hg hat))
      go_roundw
      case rel => exact ⟨j + 1, by omega, by go_num, by go_num, HB2.out, by have h := HR2.out; rw [← HD.out] at h; exact h⟩
      case measure => simp [intOf]; omega
    · obtain rfl : j = N := by omega
      go_wp2_with (fail)
      go_ret3
      obtain ⟨h1, h2, h3⟩ := Prod.mk.inj HH.out |>.imp id Prod.mk.inj
      refine ⟨_, by rw [← h2, ← h3]; rfl, by rw [← h1]; simpa using HRW.out, HBW.out⟩
end Go.Proofs.YtfdgihdmhdhpcaaDoor.P
end
