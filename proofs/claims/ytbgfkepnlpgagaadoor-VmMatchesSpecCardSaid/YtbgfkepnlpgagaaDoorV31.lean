/- The law VmMatchesSpec, walked. -/
import Derived.Test.YtbgfkepnlpgagaaDoorVD
namespace Go.Proofs.YtbgfkepnlpgagaaDoor.P
open Go.RowKit Go.Proofs.YtbgfkepnlpgagaaDoorW.PrintWords Go.Proofs.YtbgfkepnlpgagaaDoorW.PrintLast Go.Proofs.YtbgfkepnlpgagaaDoorW.PrintMore
attribute [local go_sem] max2_int min2_int max_two min_two max_three min_three max_four min_four
set_option linter.unusedVariables false
set_option linter.unusedSimpArgs false

theorem ints_l0 (l : List Int) (hl : l.length ≤ 9223372036854775807) (d : Nat) : ∀ (k i : Nat), i + d = l.length → d < k → bootchainref17_Ints.l0 k l l (i : Int) = some true := by
  induction d with
  | zero =>
    intro k i hi hk
    obtain ⟨k, rfl⟩ : ∃ m, k = m + 1 := ⟨k - 1, by omega⟩
    simp only [bootchainref17_Ints.l0]
    rw [if_neg (by omega)]
  | succ d ih =>
    intro k i hi hk
    obtain ⟨k, rfl⟩ : ∃ m, k = m + 1 := ⟨k - 1, by omega⟩
    simp only [bootchainref17_Ints.l0]
    rw [if_pos (by omega), if_pos (by omega), if_pos (by omega), if_pos trivial]
    have e : wrap64 ((i : Int) + 1) = ((i + 1 : Nat) : Int) := by unfold wrap64; omega
    rw [e]
    exact ih k (i + 1) (by omega) (by omega)
theorem ints_refl (l : List Int) (hl : l.length ≤ 9223372036854775807) (k : Nat) (hk : l.length < k) : bootchainref17_Ints.f k l l = some true := by
  unfold bootchainref17_Ints.f
  rw [if_pos rfl]
  exact ints_l0 l hl l.length k 0 (by omega) hk
theorem same_refl (p n : List Int) (f s : Int) (hp : p.length ≤ 9223372036854775807) (hn : n.length ≤ 9223372036854775807) : bootchainref17_Same.f (p.length + n.length + 1) p n f s p n f s = some true := by
  unfold bootchainref17_Same.f
  rw [ints_refl p hp _ (by omega)]
  simp only [Option.bind_some, if_true]
  rw [ints_refl n hn _ (by omega)]
  simp
def smallB (l0 : List S42) (l1 l2 : List Int) : Bool := decide (l0.length ≤ 200 ∧ l1.length ≤ 20 ∧ l2.length ≤ 20)
theorem small_f (l0 : List S42) (V P : Int) (l1 l2 : List Int) : bootchainlaw17_small.f l0 V P l1 l2 = some (smallB l0 l1 l2) := by
  unfold bootchainlaw17_small.f smallB
  by_cases h0 : l0.length ≤ 200
  · rw [if_pos (by omega)]
    by_cases h1 : l1.length ≤ 20
    · rw [if_pos (by omega)]
      congr 1
      by_cases h2 : l2.length ≤ 20
      · rw [decide_eq_true (by omega), decide_eq_true ⟨h0, h1, h2⟩]
      · rw [decide_eq_false (by omega), decide_eq_false (fun h => h2 h.2.2)]
    · rw [if_neg (by omega), decide_eq_false (fun h => h1 h.2.1)]
  · rw [if_neg (by omega), decide_eq_false (fun h => h0 h.1)]
set_option maxRecDepth 100000 in
set_option maxHeartbeats 4000000 in
theorem law3 (A0_0 : Option Addr) (c0_0 : Nat) (l0_0 : List S42) (V P : Int) (A1 : Option Addr) (c1 : Nat) (l1 : List Int) (A2 : Option Addr) (c2 : Nat) (l2 : List Int) (w : World) (hr0 : Kd.C k42 w A0_0 l0_0.length l0_0) (hc0 : l0_0.length ≤ c0_0) (hr1 : Kd.C (Kd.int .i64) w A1 l1.length l1) (hc1 : l1.length ≤ c1) (hr2 : Kd.C (Kd.int .i64) w A2 l2.length l2) (hc2 : l2.length ≤ c2) (htab : TabW w) :
    Calls Tryd.prog 3 #[.agg #[.slice A0_0 l0_0.length c0_0, .int .i64 V, .int .i64 P], .slice A1 l1.length c1, .slice A2 l2.length c2] w fun e w' => e = .returned (.bool true) ∧ Below w.heap.size w w' := by
  have HR0 := Lib.hid hr0
  have HR1 := Lib.hid hr1
  have HR2 := Lib.hid hr2
  have HT := Lib.hid htab
  clear hr0 hr1 hr2 htab
  go_enter Tryd.func3, Tryd.ntmps3
  go_wp2_with fail
  have hb0 : Below w.heap.size w (w.alloc (.cells #[.slice A0_0 l0_0.length c0_0, .int .i64 V, .int .i64 P] 24)) := (Below.refl _ _).alloc (Nat.le_refl _) _
  have hx0 : (w.alloc (.cells #[.slice A0_0 l0_0.length c0_0, .int .i64 V, .int .i64 P] 24)).heap[w.heap.size]? = some (.cells #[.slice A0_0 l0_0.length c0_0, .int .i64 V, .int .i64 P] 24) := heap_alloc_new _ _
  refine (sanity_any _ (HT.out.below hb0)).mono ?_
  rintro e w1 ⟨rfl, hb⟩
  have HB1 := Lib.hid (hb0.trans (hb.mono hb0.size))
  have HX1 := Lib.hid ((hb.block _ (blk_lt hx0)).trans hx0)
  clear hb0 hb hx0
  have k0 : w1.cell? ⟨w.heap.size, 0, none⟩ = some (.slice A0_0 l0_0.length c0_0) := (blk_cell HX1.out 0).trans rfl
  have k1 : w1.cell? ⟨w.heap.size, 1, none⟩ = some (.int .i64 V) := (blk_cell HX1.out 1).trans rfl
  have k2 : w1.cell? ⟨w.heap.size, 2, none⟩ = some (.int .i64 P) := (blk_cell HX1.out 2).trans rfl
  go_wp2_with fail
  refine (bootchainlaw17_small.calls A0_0 c0_0 l0_0 V P A1 c1 l1 A2 c2 l2 _ w1 (Kd.C_below HR0.out HB1.out) hc0 (Kd.C_below HR1.out HB1.out) hc1 (Kd.C_below HR2.out HB1.out) hc2 (small_f l0_0 V P l1 l2)).mono ?_
  rintro e w2 ⟨rfl, hb⟩
  have HB2 := Lib.hid (HB1.out.trans (hb.mono HB1.out.size))
  have HX2 := Lib.hid ((hb.block _ (blk_lt HX1.out)).trans HX1.out)
  clear hb k0 k1 k2
  cases hsm : smallB l0_0 l1 l2
  · go_wp2_with fail
    go_ret
    exact ⟨rfl, HB2.out⟩
  · have hs := of_decide_eq_true hsm
    clear hsm
    obtain ⟨p, n, f, s, e5, hrun⟩ : ∃ p n f s e5, vm_Run.f l0_0 V P l1 l2 = some (p, n, f, s, e5) := by
      unfold vm_Run.f
      rw [if_pos ⟨by omega, by omega⟩]
      exact ⟨_, _, _, _, _, rfl⟩
    have HRUN := Lib.hid hrun
    have hs0 := hs.1
    clear hrun hs
    have k0 : w2.cell? ⟨w.heap.size, 0, none⟩ = some (.slice A0_0 l0_0.length c0_0) := (blk_cell HX2.out 0).trans rfl
    have k1 : w2.cell? ⟨w.heap.size, 1, none⟩ = some (.int .i64 V) := (blk_cell HX2.out 1).trans rfl
    have k2 : w2.cell? ⟨w.heap.size, 2, none⟩ = some (.int .i64 P) := (blk_cell HX2.out 2).trans rfl
    go_wp2_with fail
    refine (vm_Run.calls A0_0 c0_0 l0_0 V P A1 c1 l1 A2 c2 l2 p n f s e5 w2 (Kd.C_below HR0.out HB2.out) hc0 (Kd.C_below HR1.out HB2.out) hc1 (Kd.C_below HR2.out HB2.out) hc2 (HT.out.below HB2.out) HRUN.out).mono ?_
    rintro e w3 ⟨u0, u1, rfl, hR0, hR1, hb⟩
    obtain ⟨A3, a3, rfl, ha3, hc3⟩ := Kd.R_reads hR0
    obtain ⟨A4, a4, rfl, ha4, hc4⟩ := Kd.R_reads hR1
    have HB3 := Lib.hid (HB2.out.trans (hb.mono HB2.out.size))
    have HX3 := Lib.hid ((hb.block _ (blk_lt HX2.out)).trans HX2.out)
    have HC3 := Lib.hid hc3
    have HC4 := Lib.hid hc4
    have hpl := hc3.2.1
    have hnl := hc4.2.1
    clear hb hR0 hR1 hc3 hc4 k0 k1 k2
    have hq0 : ∀ o, (w3.alloc o).cell? ⟨w.heap.size, 0, none⟩ = some (.slice A0_0 l0_0.length c0_0) := fun o => (box_cell HX3.out (al1 w3 o) 0).trans rfl
    have hq1 : ∀ o, (w3.alloc o).cell? ⟨w.heap.size, 1, none⟩ = some (.int .i64 V) := fun o => (box_cell HX3.out (al1 w3 o) 1).trans rfl
    have hq2 : ∀ o, (w3.alloc o).cell? ⟨w.heap.size, 2, none⟩ = some (.int .i64 P) := fun o => (box_cell HX3.out (al1 w3 o) 2).trans rfl
    go_wp2_with fail
    clear hq0 hq1 hq2
    have hbe := al1 w3 (.cells #[.slice A3 p.length a3, .slice A4 n.length a4, .int .i64 f, .int .i64 s] 29)
    have hx5 : (w3.alloc (.cells #[.slice A3 p.length a3, .slice A4 n.length a4, .int .i64 f, .int .i64 s] 29)).heap[w3.heap.size]? = some (.cells #[.slice A3 p.length a3, .slice A4 n.length a4, .int .i64 f, .int .i64 s] 29) := heap_alloc_new _ _
    have hbw := HB3.out.trans (hbe.mono HB3.out.size)
    refine (rrun_any A0_0 c0_0 l0_0 V P A1 c1 l1 A2 c2 l2 _ (p, n, f, s, e5) (Kd.C_below HR0.out hbw) (Kd.C_below HR1.out hbw) (Kd.C_below HR2.out hbw) (by omega) HRUN.out).mono ?_
    rintro e w5 ⟨u0, u1, rfl, ⟨A5, a5, rfl, ha5, hc5, _⟩, ⟨A6, a6, rfl, ha6, hc6, _⟩, hb⟩
    have HX5 := Lib.hid ((hb.block _ (blk_lt hx5)).trans hx5)
    have HB5 := Lib.hid (hbw.trans (hb.mono hbw.size))
    have HC5 := Lib.hid hc5
    have HC6 := Lib.hid hc6
    have HC35 := Lib.hid (Kd.C_below (Kd.C_below HC3.out hbe) hb)
    have HC45 := Lib.hid (Kd.C_below (Kd.C_below HC4.out hbe) hb)
    clear hbe hx5 hbw hb hc5 hc6
    have hq0 : ∀ o, (w5.alloc o).cell? ⟨w3.heap.size, 0, none⟩ = some (.slice A3 p.length a3) := fun o => (box_cell HX5.out (al1 w5 o) 0).trans rfl
    have hq1 : ∀ o, (w5.alloc o).cell? ⟨w3.heap.size, 1, none⟩ = some (.slice A4 n.length a4) := fun o => (box_cell HX5.out (al1 w5 o) 1).trans rfl
    have hq2 : ∀ o, (w5.alloc o).cell? ⟨w3.heap.size, 2, none⟩ = some (.int .i64 f) := fun o => (box_cell HX5.out (al1 w5 o) 2).trans rfl
    have hq3 : ∀ o, (w5.alloc o).cell? ⟨w3.heap.size, 3, none⟩ = some (.int .i64 s) := fun o => (box_cell HX5.out (al1 w5 o) 3).trans rfl
    have hee : (e5 == e5) = true := by simp
    go_wp2_with fail
    clear hq0 hq1 hq2 hq3
    have hbe := al1 w5 (.cells #[.slice A5 p.length a5, .slice A6 n.length a6, .int .i64 f, .int .i64 s] 29)
    refine (bootchainref17_Same.calls (p.length + n.length + 1) A3 a3 p A4 a4 n f s A5 a5 p A6 a6 n f s true _ (Kd.C_below HC35.out hbe) ha3 (Kd.C_below HC45.out hbe) ha4 (Kd.C_below HC5.out hbe) ha5 (Kd.C_below HC6.out hbe) ha6 (same_refl p n f s hpl hnl)).mono ?_
    rintro e w6 ⟨rfl, hb⟩
    have HB6 := Lib.hid (HB5.out.trans ((hbe.trans (hb.mono hbe.size)).mono HB5.out.size))
    clear hbe hb
    go_wp2_with fail
    go_ret
    exact ⟨rfl, HB6.out⟩
end Go.Proofs.YtbgfkepnlpgagaaDoor.P
