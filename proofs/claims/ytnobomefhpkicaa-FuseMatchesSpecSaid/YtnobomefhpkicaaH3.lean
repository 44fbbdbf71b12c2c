import Derived.Test.YtnobomefhpkicaaH2
import Derived.RangeFuncNested
import Derived.RangeFuncBound
import Derived.RangeFuncCalls
import Derived.RangeFuncLeaves
import Derived.RangeFuncBox
import Derived.RangeFuncFrom
import Derived.Shelf.Abstract
import Derived.Shelf.RegionOpen
import Derived.WalkKit
import Derived.OwnWalkIn
import Derived.TacticsInMore
import Derived.LoopNIn
import Derived.LoopIn
import Derived.Deep.QuietTactic
import Derived.BigQuiet
import Derived.Sort.QuietIn
namespace Go.Proofs.Ytnobomefhpkicaa.P
open Go.RowKit Go.Shelf Go.Proofs.YtnobomefhpkicaaW.PrintWords Go.Proofs.YtnobomefhpkicaaW.PrintLast Go.Proofs.YtnobomefhpkicaaW.PrintMore
set_option linter.unusedVariables false
set_option linter.unusedSimpArgs false
attribute [local go_sem] Oper.semAt_some
attribute [local go_sem] max2_int min2_int max_two min_two

theorem chunk_in (n : Nat) (A : Option Addr) (len cap : Nat) (w : World) :
    CallsIn Fence.wide n Try.prog 40 #[.slice A len cap, .int .i64 3] w fun e w' => e = .returned (.func (.func 44) #[] #[.pointer (some ⟨w.heap.size, 0, none⟩), .pointer (some ⟨w.heap.size + 1, 0, none⟩)]) ∧ w' = (w.alloc (.cells #[.slice A len cap] 26)).alloc (.cells #[.int .i64 3] 3) := by
  refine callsIn_of_wp Try.func40 rfl trivial ?_ rfl
  simp only [Try.ntmps40, List.size_toArray, List.length_cons, List.length_nil, Nat.reduceAdd, Nat.reduceSub, Array.replicate_succ, Array.replicate_zero, List.push_toArray, List.append_toArray, List.nil_append, List.cons_append]
  gi_wp2
  go_ret
  exact ⟨rfl, rfl⟩
theorem fin_take_succ (m k : Nat) (h : k < m) : (List.finRange m).take (k + 1) = (List.finRange m).take k ++ [⟨k, h⟩] := by
  rw [List.take_succ_eq_append_getElem (by rw [List.length_finRange]; exact h), List.getElem_finRange]; rfl
theorem below_drewN_ {B : Nat} {w w' : World} (h : Below B w w') (n : Nat) : Below B w (w'.drewN n) := pw_below_drewN h n
set_option maxRecDepth 100000 in
set_option maxHeartbeats 2000000 in
theorem chunk1_in (n : Nat) (hn : 1 ≤ n) (l Bs n₀ : Nat) (ad : Addr) (len cap : Nat) (hcap : len ≤ cap) (hm3 : len % 3 = 0) (hreach : len ≤ 4611686018427387904) (hBs : Bs + 1 < n₀) (J Jx : List (Fin (len / 3)) → World → Prop) (hJd : ∀ s W n, J s W → J s (W.drewN n))
    (hY : ∀ pre x W, J pre W → pre.length < len / 3 → YieldAt Fence.wide (n - 1) Try.prog l #[.slice (some (ad.add (3 * x.1))) 3 3] W fun e W' =>
      (e = .returned (.bool true) ∧ J (pre ++ [x]) W' ∧ Below n₀ W W') ∨ (e = .returned (.bool false) ∧ Jx (pre ++ [x]) W'))
    (W : World) (hB1 : W.cell? ⟨Bs, 0, none⟩ = some (.slice (some ad) len cap)) (hB2 : W.cell? ⟨Bs + 1, 0, none⟩ = some (.int .i64 3)) (h0 : J [] W) :
    CallsIn Fence.wide n Try.prog 44 #[.func (.yield l) #[] #[], .pointer (some ⟨Bs, 0, none⟩), .pointer (some ⟨Bs + 1, 0, none⟩)] W fun e W' => (∃ v, e = .returned v) ∧
      ((∃ ys, ys = List.finRange (len / 3) ∧ J ys W') ∨ (∃ pre, (∃ k, k ≤ len / 3 ∧ pre = (List.finRange (len / 3)).take k) ∧ Jx pre W')) := by
  refine callsIn_of_wp Try.func44 rfl trivial ?_ rfl
  simp only [Try.ntmps44, List.size_toArray, List.length_cons, List.length_nil, Nat.reduceAdd, Nat.reduceSub, Array.replicate_succ, Array.replicate_zero, List.push_toArray, List.append_toArray, List.nil_append, List.cons_append]
  gi_wp2_with fail
  gi_loopw [4] (fun i wr => ∃ k : Nat, k ≤ len / 3 ∧ i = .int .i64 ((3 * k : Nat) : Int) ∧ J ((List.finRange (len / 3)).take k) wr ∧ Below n₀ W wr)
    (fun i _ => len - (intOf i).toNat)
  case atStart => exact ⟨0, Nat.zero_le _, rfl, h0, Below.refl _ _⟩
  case round =>
    obtain ⟨k, hk, rfl, hJs, hnx⟩ := hrel
    have hc1 := (hnx.cell (p := ⟨Bs, 0, none⟩) (by simp; omega)).trans hB1
    have hc2 := (hnx.cell (p := ⟨Bs + 1, 0, none⟩) (by simp; omega)).trans hB2
    by_cases hlt : k < len / 3
    · have hlt3 : 3 * k + 3 ≤ len := by omega
      have hmn : (if ((len - 3 * k : Nat) : Int) < 3 then ((len - 3 * k : Nat) : Int) else 3) = 3 := by rw [if_neg (by omega)]
      have HY := Lib.hid hY
      have HJd := Lib.hid hJd
      clear hY hJd
      gi_wp2_with fail
      gi_quiet (fail)
      have hJ2 := HJd.out _ _ nq hJs
      have hn2 : Below n₀ W (wr.drewN nq) := hnx.trans (below_drewN_ (Below.refl _ _) nq)
      have hc1' := (hn2.cell (p := ⟨Bs, 0, none⟩) (by simp; omega)).trans hB1
      have hc2' := (hn2.cell (p := ⟨Bs + 1, 0, none⟩) (by simp; omega)).trans hB2
      obtain ⟨wq, hwq⟩ : ∃ wq, wr.drewN nq = wq := ⟨_, rfl⟩
      rw [hwq] at hJ2 hn2 hc1' hc2' ⊢
      obtain ⟨fn, tmps, assign, body, hy, hR⟩ := HY.out _ (⟨k, hlt⟩ : Fin (len / 3)) wq hJ2 (by rw [List.length_take, List.length_finRange]; omega)
      clear hwq hnx hc1 hc2 hJs
      gi_wp2_with fail
      refine hR.mono ?_
      rintro e W3 (⟨rfl, hJ3, hk3⟩ | ⟨rfl, hJx3⟩)
      · have hn3 := hn2.trans hk3
        have hc1'' := (hn3.cell (p := ⟨Bs, 0, none⟩) (by simp; omega)).trans hB1
        have hc2'' := (hn3.cell (p := ⟨Bs + 1, 0, none⟩) (by simp; omega)).trans hB2
        gi_wp2_with fail
        go_roundw
        case rel => exact ⟨k + 1, by omega, by go_num, by rw [fin_take_succ _ _ hlt]; exact hJ3, hn3⟩
        case measure => simp [intOf]; omega
      · gi_wp2
        refine bodyPost_ret (results_none rfl _ _ _) rfl ?_
        exact ⟨⟨_, rfl⟩, .inr ⟨_, ⟨k + 1, by omega, (fin_take_succ _ _ hlt).symm⟩, hJx3⟩⟩
    · have hke : 3 * k = len := by omega
      gi_wp2
      go_end0
      exact ⟨⟨_, rfl⟩, .inl ⟨_, rfl, by rw [← List.take_of_length_le (l := List.finRange (len / 3)) (i := k) (by rw [List.length_finRange]; omega)]; exact hJs⟩⟩
end Go.Proofs.Ytnobomefhpkicaa.P
