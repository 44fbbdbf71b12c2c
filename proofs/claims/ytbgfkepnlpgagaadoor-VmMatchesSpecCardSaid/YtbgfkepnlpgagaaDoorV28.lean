/- The reference's Run, its good way. -/
import Derived.Test.YtbgfkepnlpgagaaDoorV27
import Derived.Test.YtbgfkepnlpgagaaDoorG1
namespace Go.Proofs.YtbgfkepnlpgagaaDoor.P
open Go.RowKit Go.Proofs.YtbgfkepnlpgagaaDoorW.PrintWords Go.Proofs.YtbgfkepnlpgagaaDoorW.PrintLast Go.Proofs.YtbgfkepnlpgagaaDoorW.PrintMore
attribute [local go_sem] max2_int min2_int max_two min_two max_three min_three max_four min_four
set_option linter.unusedVariables false
set_option linter.unusedSimpArgs false
def rrun12.T9 : Bool × List (List Nat × List Nat) := (true, [([], []), ([0], [0]), ([], []), ([], []), ([2, 3], [2, 3]), ([4], [4]), ([5], [5]), ([1, 6], [1, 6]), ([0, 1, 2, 3, 4, 5, 6, 7], []), ([8, 7, 7, 0, 1, 2, 3, 4, 5, 6, 7], [7, 8])])
def rrun12.B9 : List Nat := [0, 1, 0, 0, 12, 28, 60, 127, 255, 511]
theorem rrun12.tab9 : rtab .any (opsOf Tryd.f12 9) = rrun12.T9 := by kernel_rfl
theorem rrun12.bits9 : waitsOk rrun12.T9.2 rrun12.B9 = true := by kernel_rfl
def rrun12.T15 : Bool × List (List Nat × List Nat) := (true, [([], []), ([], []), ([1], [1]), ([0, 0], [0]), ([2, 3, 0, 1, 2, 3], [2])])
def rrun12.B15 : List Nat := [0, 0, 2, 1, 15]
theorem rrun12.tab15 : rtab .any (opsOf Tryd.f12 15) = rrun12.T15 := by kernel_rfl
theorem rrun12.bits15 : waitsOk rrun12.T15.2 rrun12.B15 = true := by kernel_rfl
theorem own_step {W W1 : World} {base n : Nat} {v : Value} {xs : List Value} (h : W.ownsRow base 3 1 v n xs) {row : Option Nat} (hg : W.grownBy W1 row) (hne : ∀ k, v.ownBlock = some k → some k ≠ row) : W1.ownsRow base 3 1 v n xs := own_move h (fun k hk => hg.block k (own_lt h k hk) (hne k hk))
theorem take_any (l : List Int) (k : Nat) (hk : k < l.length) : (l.take (k + 1)).any oddP = ((l.take k).any oddP || oddP (rd l ((k : Nat) : Int))) := by
  have e : rd l ((k : Nat) : Int) = l[k] := by rw [rd_getD, List.getD_eq_getElem?_getD, List.getElem?_eq_getElem hk]; rfl
  rw [← List.take_append_getElem hk, List.any_append, e]; simp
theorem any_at (l : List Int) (k : Nat) (hk : k < l.length) (h : oddP (rd l ((k : Nat) : Int)) = true) : l.any oddP = true := by
  rw [List.any_eq_true]
  exact ⟨l[k], List.getElem_mem hk, by rw [← h, rd_getD, List.getD_eq_getElem?_getD, List.getElem?_eq_getElem hk]; rfl⟩
theorem take_rd (l : List Int) (k : Nat) (hk : k < l.length) : l.take (k + 1) = l.take k ++ [rd l ((k : Nat) : Int)] := by
  have e : rd l ((k : Nat) : Int) = l[k] := by rw [rd_getD, List.getD_eq_getElem?_getD, List.getElem?_eq_getElem hk]; rfl
  rw [e, List.take_append_getElem hk]
/-- The third loop: the machine runs, or has failed. -/
def RunJ (w : World) (m : Nat) (code : Array Value) (f : Nat → Int × Int × Int) (L : Nat) (gl : List Int) (P : Int) (r : Except Int St) (W : World) : Prop :=
  ∃ (s : St) (code' : Int) (vv vs vp vn : Value), Fq w W m code (stC s.pc vv vs vp vn s.fin s.steps s.br s.done code') ∧ RD W vv s.vars ∧ RD W vs s.stack ∧ RD W vp s.pts ∧ RD W vn s.notes ∧
    ((code' = 0 ∧ Gd P s ∧ runP f L gl P (3002 - s.steps.toNat) s = r) ∨ (code' ≠ 0 ∧ s.done = false ∧ r = .error code'))
def errOf (m : Nat) (W : World) : Int := match W.cell? ⟨m, 9, none⟩ with | some (.int _ n) => n | _ => 0
def msr (m : Nat) (W : World) : Nat := if errOf m W = 0 then 3002 - (match W.cell? ⟨m, 6, none⟩ with | some (.int _ n) => n.toNat | _ => 0) else 0
theorem msr_eq {w W : World} {m : Nat} {code : Array Value} {pc fin steps br code' : Int} {vv vs vp vn : Value} {d : Bool} (h : Fq w W m code (stC pc vv vs vp vn fin steps br d code')) : msr m W = if code' = 0 then 3002 - steps.toNat else 0 := by
  have e9 : W.cell? ⟨m, 9, none⟩ = some (.int .i64 code') := (blk_cell h.s 9).trans rfl
  have e6 : W.cell? ⟨m, 6, none⟩ = some (.int .i64 steps) := (blk_cell h.s 6).trans rfl
  unfold msr errOf
  rw [e9, e6]
theorem put10q {w W : World} {m : Nat} {code : Array Value} {z0 z1 z2 z3 z4 z5 z6 z7 z8 z9 : Value} (h : Fq w W m code #[z0, z1, z2, z3, z4, z5, z6, z7, z8, z9]) (v0 v1 v2 v3 v4 v5 v6 v7 v8 v9 : Value) : Fq w ((((((((((W.setCell ⟨m, 0, none⟩ v0).setCell ⟨m, 1, none⟩ v1).setCell ⟨m, 2, none⟩ v2).setCell ⟨m, 3, none⟩ v3).setCell ⟨m, 4, none⟩ v4).setCell ⟨m, 5, none⟩ v5).setCell ⟨m, 6, none⟩ v6).setCell ⟨m, 7, none⟩ v7).setCell ⟨m, 8, none⟩ v8).setCell ⟨m, 9, none⟩ v9) m code #[v0, v1, v2, v3, v4, v5, v6, v7, v8, v9] := by
  have h0 := Fq.set (st' := #[v0, z1, z2, z3, z4, z5, z6, z7, z8, z9]) h 0 v0 rfl
  have h1 := Fq.set (st' := #[v0, v1, z2, z3, z4, z5, z6, z7, z8, z9]) h0 1 v1 rfl
  have h2 := Fq.set (st' := #[v0, v1, v2, z3, z4, z5, z6, z7, z8, z9]) h1 2 v2 rfl
  have h3 := Fq.set (st' := #[v0, v1, v2, v3, z4, z5, z6, z7, z8, z9]) h2 3 v3 rfl
  have h4 := Fq.set (st' := #[v0, v1, v2, v3, v4, z5, z6, z7, z8, z9]) h3 4 v4 rfl
  have h5 := Fq.set (st' := #[v0, v1, v2, v3, v4, v5, z6, z7, z8, z9]) h4 5 v5 rfl
  have h6 := Fq.set (st' := #[v0, v1, v2, v3, v4, v5, v6, z7, z8, z9]) h5 6 v6 rfl
  have h7 := Fq.set (st' := #[v0, v1, v2, v3, v4, v5, v6, v7, z8, z9]) h6 7 v7 rfl
  have h8 := Fq.set (st' := #[v0, v1, v2, v3, v4, v5, v6, v7, v8, z9]) h7 8 v8 rfl
  have h9 := Fq.set (st' := #[v0, v1, v2, v3, v4, v5, v6, v7, v8, v9]) h8 9 v9 rfl
  exact h9
theorem rd10 {w W : World} {m : Nat} {code : Array Value} {v : Value} {l : List Int} {z0 z1 z2 z3 z4 z5 z6 z7 z8 z9 : Value} (hr : RD W v l) (h : Fq w W m code #[z0, z1, z2, z3, z4, z5, z6, z7, z8, z9]) (v0 v1 v2 v3 v4 v5 v6 v7 v8 v9 : Value) : RD ((((((((((W.setCell ⟨m, 0, none⟩ v0).setCell ⟨m, 1, none⟩ v1).setCell ⟨m, 2, none⟩ v2).setCell ⟨m, 3, none⟩ v3).setCell ⟨m, 4, none⟩ v4).setCell ⟨m, 5, none⟩ v5).setCell ⟨m, 6, none⟩ v6).setCell ⟨m, 7, none⟩ v7).setCell ⟨m, 8, none⟩ v8).setCell ⟨m, 9, none⟩ v9) v l := by
  have h0 := Fq.set (st' := #[v0, z1, z2, z3, z4, z5, z6, z7, z8, z9]) h 0 v0 rfl
  have hr := hr.far h.s (by decide) 0 v0
  have h1 := Fq.set (st' := #[v0, v1, z2, z3, z4, z5, z6, z7, z8, z9]) h0 1 v1 rfl
  have hr := hr.far h0.s (by decide) 1 v1
  have h2 := Fq.set (st' := #[v0, v1, v2, z3, z4, z5, z6, z7, z8, z9]) h1 2 v2 rfl
  have hr := hr.far h1.s (by decide) 2 v2
  have h3 := Fq.set (st' := #[v0, v1, v2, v3, z4, z5, z6, z7, z8, z9]) h2 3 v3 rfl
  have hr := hr.far h2.s (by decide) 3 v3
  have h4 := Fq.set (st' := #[v0, v1, v2, v3, v4, z5, z6, z7, z8, z9]) h3 4 v4 rfl
  have hr := hr.far h3.s (by decide) 4 v4
  have h5 := Fq.set (st' := #[v0, v1, v2, v3, v4, v5, z6, z7, z8, z9]) h4 5 v5 rfl
  have hr := hr.far h4.s (by decide) 5 v5
  have h6 := Fq.set (st' := #[v0, v1, v2, v3, v4, v5, v6, z7, z8, z9]) h5 6 v6 rfl
  have hr := hr.far h5.s (by decide) 6 v6
  have h7 := Fq.set (st' := #[v0, v1, v2, v3, v4, v5, v6, v7, z8, z9]) h6 7 v7 rfl
  have hr := hr.far h6.s (by decide) 7 v7
  have h8 := Fq.set (st' := #[v0, v1, v2, v3, v4, v5, v6, v7, v8, z9]) h7 8 v8 rfl
  have hr := hr.far h7.s (by decide) 8 v8
  have h9 := Fq.set (st' := #[v0, v1, v2, v3, v4, v5, v6, v7, v8, v9]) h8 9 v9 rfl
  have hr := hr.far h8.s (by decide) 9 v9
  exact hr
def lenOf (m : Nat) (W : World) : Nat := match W.cell? ⟨m, 1, none⟩ with | some (.slice _ n _) => n | _ => 0
/-- The first loops: so many variables are laid. -/
def L0 (w : World) (m : Nat) (code : Array Value) (vp : Value) (P : Nat) (l : List Int) (W : World) : Prop :=
  ∃ vv : Value, Fq w W m code #[.int .i64 0, vv, .slice none 0 0, vp, .slice none 0 0, .int .i64 0, .int .i64 0, .int .i64 0, .bool false, .int .i64 0] ∧ W.ownsRow w.heap.size 3 1 vv l.length (n64 l) ∧ W.ownsRow w.heap.size 3 1 vp P (n64 (List.replicate P 0)) ∧ Ap vv vp
set_option maxRecDepth 100000 in
set_option maxHeartbeats 8000000 in
theorem rrun_good (A0_0 : Option Addr) (c0_0 : Nat) (l0_0 : List S42) (V P : Nat) (A1 : Option Addr) (c1 : Nat) (l1 : List Int) (A2 : Option Addr) (c2 : Nat) (l2 : List Int) (w : World) (hr0 : Kd.C k42 w A0_0 l0_0.length l0_0) (hr1 : Kd.C (Kd.int .i64) w A1 l1.length l1) (hr2 : Kd.C (Kd.int .i64) w A2 l2.length l2) (hl2 : l2.length ≤ 4611686018427387904) (hins : l0_0.length ≤ 1000) (hP : P ≤ 8) (hlV : l1.length ≤ V) (hV : V ≤ 400)
    (rr : List Int × List Int × Int × Int × Int) (hrr : rr = if l1.any oddP then ([], [], 0, 0, 1) else endR (runP (insF l0_0) l0_0.length l2 P 3002 (initS V P l1))) :
    Calls Tryd.prog 12 #[.agg #[.slice A0_0 l0_0.length c0_0, .int .i64 (V : Nat), .int .i64 (P : Nat)], .slice A1 l1.length c1, .slice A2 l2.length c2] w (RRun w rr) := by
  have HR0 := Lib.hid hr0
  have HR1 := Lib.hid hr1
  have HR2 := Lib.hid hr2
  have HRR := Lib.hid hrr
  have d1 : decide ((P : Int) < 0) = false := decide_eq_false (by omega)
  have d2 : decide (8 < (P : Int)) = false := decide_eq_false (by omega)
  have d3 : decide (V < l1.length) = false := decide_eq_false (by omega)
  have d4 : decide (400 < (V : Int)) = false := decide_eq_false (by omega)
  have hmk := print_make_of (P := Tryd.prog) 25 3 (.int .i64 0) 8 Tryd.underlying25 (by kernel_rfl) rfl (by decide) P (by omega)
  clear hr0 hr1 hr2 hrr
  have HPRE := Lib.hid (pre_world2 w (ocO A0_0 l0_0.length c0_0 (V : Nat) (P : Nat)) ooO)
  go_enter Tryd.func12, Tryd.ntmps12
  go_upto_region 1 with fail
  obtain ⟨ho, hc, hs2, hB⟩ := HPRE.out
  generalize hw2 : (w.alloc (.cells #[.slice A0_0 l0_0.length c0_0, .int .i64 (V : Nat), .int .i64 (P : Nat)] 24)).alloc (.cells #[.slice none 0 0, .slice none 0 0, .int .i64 0, .int .i64 0] 29) = w2 at ho hc hs2 hB ⊢
  clear hw2 HPRE
  have k0 : w2.cell? ⟨w.heap.size, 0, none⟩ = some (.slice A0_0 l0_0.length c0_0) := (blk_cell hc 0).trans rfl
  have k1 : w2.cell? ⟨w.heap.size, 1, none⟩ = some (.int .i64 (V : Nat)) := (blk_cell hc 1).trans rfl
  have k2 : w2.cell? ⟨w.heap.size, 2, none⟩ = some (.int .i64 (P : Nat)) := (blk_cell hc 2).trans rfl
  have y0 : w2.cell? ⟨w.heap.size + 1, 0, none⟩ = some (.slice none 0 0) := (blk_cell ho 0).trans rfl
  have y1 : w2.cell? ⟨w.heap.size + 1, 1, none⟩ = some (.slice none 0 0) := (blk_cell ho 1).trans rfl
  have y2 : w2.cell? ⟨w.heap.size + 1, 2, none⟩ = some (.int .i64 0) := (blk_cell ho 2).trans rfl
  have y3 : w2.cell? ⟨w.heap.size + 1, 3, none⟩ = some (.int .i64 0) := (blk_cell ho 3).trans rfl
  have fz := blk_frozen ho
  have HO := Lib.hid ho
  have HC := Lib.hid hc
  have HB := Lib.hid hB
  go_upto_region 4 with fail
  have hF4 : Fq w ((w2.alloc (.cells (madeCells #[.int .i64 0] P) 3)).alloc (.cells #[.int .i64 0, .slice none 0 0, .slice none 0 0, .slice (some ⟨w.heap.size + 2, 0, none⟩) P P, .slice none 0 0, .int .i64 0, .int .i64 0, .int .i64 0, .bool false, .int .i64 0] 55)) (w.heap.size + 2 + 1) #[.slice A0_0 l0_0.length c0_0, .int .i64 (V : Nat), .int .i64 (P : Nat)] #[.int .i64 0, .slice none 0 0, .slice none 0 0, .slice (some ⟨w.heap.size + 2, 0, none⟩) P P, .slice none 0 0, .int .i64 0, .int .i64 0, .int .i64 0, .bool false, .int .i64 0] := by
    have s1 : (w2.alloc (.cells (madeCells #[.int .i64 0] P) 3)).heap.size = w.heap.size + 2 + 1 := by rw [World.size_alloc, hs2]
    refine ⟨?_, ?_, ?_, ?_, by omega⟩
    · rw [Below.heap_alloc _ _ _ (by omega), Below.heap_alloc _ _ _ (by omega)]; exact HC.out
    · rw [Below.heap_alloc _ _ _ (by omega), Below.heap_alloc _ _ _ (by omega)]; exact HO.out
    · rw [← s1]; exact heap_alloc_new _ _
    · exact (HB.out.alloc (by omega) _).alloc (by omega) _
  have hvp : ((w2.alloc (.cells (madeCells #[.int .i64 0] P) 3)).alloc (.cells #[.int .i64 0, .slice none 0 0, .slice none 0 0, .slice (some ⟨w.heap.size + 2, 0, none⟩) P P, .slice none 0 0, .int .i64 0, .int .i64 0, .int .i64 0, .bool false, .int .i64 0] 55)).ownsRow w.heap.size 3 1 (.slice (some ⟨w.heap.size + 2, 0, none⟩) P P) P (n64 (List.replicate P 0)) := by
    have h := own_made_of (enc := Value.int .i64) (d := 0) w2 w.heap.size 3 P (by omega) (by omega)
    rw [hs2] at h
    exact own_move h (fun k hk => Below.heap_alloc _ _ k (own_lt h k hk))
  have HF4 := Lib.hid hF4
  have HVP := Lib.hid hvp
  clear hF4 hvp HO HC HB k0 k1 k2 y0 y1 y2 y3 fz ho hc hB hmk d1 d2 d3 d4
  generalize (w2.alloc (.cells (madeCells #[.int .i64 0] P) 3)).alloc (.cells #[.int .i64 0, .slice none 0 0, .slice none 0 0, .slice (some ⟨w.heap.size + 2, 0, none⟩) P P, .slice none 0 0, .int .i64 0, .int .i64 0, .int .i64 0, .bool false, .int .i64 0] 55) = w4 at HF4 HVP ⊢
  clear hs2
  generalize hm : w.heap.size + 2 + 1 = m at HF4 ⊢
  generalize w.heap.size + 2 = bp at HF4 HVP ⊢
  clear hm
  go_wp2_with fail
  go_loopw [9] (fun i W => ∃ k : Nat, k ≤ l1.length ∧ i = .int .i64 k ∧ L0 w m #[.slice A0_0 l0_0.length c0_0, .int .i64 (V : Nat), .int .i64 (P : Nat)] (.slice (some ⟨bp, 0, none⟩) P P) P (l1.take k) W ∧ (l1.take k).any oddP = false) (fun i _ => l1.length - (intOf i).toNat)
  case atStart => exact ⟨0, Nat.zero_le _, rfl, ⟨_, HF4.out, own_nil _ _ _ _, HVP.out, nil_ap _ _⟩, rfl⟩
  case round =>
    obtain ⟨k, hk, rfl, ⟨vv, hF, hvv, hvp, hap⟩, hany⟩ := hrel
    have HF := Lib.hid hF
    have HVV := Lib.hid hvv
    have HVQ := Lib.hid hvp
    have HAP := Lib.hid hap
    have HAN := Lib.hid hany
    clear hF hvv hvp hap hany HF4 HVP
    obtain ⟨Av, cv, hev, _, _⟩ := own_slice HVV.out
    have hlk : (l1.take k).length = k := by rw [List.length_take]; omega
    rw [hlk] at hev
    subst hev
    obtain ⟨c_0, c_1, c_2, c_3, c_4, c_5, c_6, c_7, c_8, c_9⟩ := HF.out.so
    obtain ⟨y0, y1, y2, y3⟩ := HF.out.sz
    obtain ⟨k0, k1, k2⟩ := HF.out.sk
    have fo := HF.out.fo
    have fz := HF.out.fz
    by_cases hlt : k < l1.length
    · obtain ⟨a1, hA1, hx⟩ := Kd.at_int (Kd.C_below HR1.out HF.out.b) (k : Int) (by omega) (by omega)
      rw [Int.toNat_natCast] at hx
      subst hA1
      cases hod : oddP (rd l1 (k : Int))
      · have hh := hod
        unfold oddP at hh
        simp only [Bool.or_eq_false_iff] at hh
        have e1 := hh.1
        have e2 : decide (65535 < rd l1 (k : Int)) = false := decide_eq_false (by have := of_decide_eq_false hh.2; omega)
        have HOD := Lib.hid hod
        clear hh hod
        have HXW := Lib.hid (show ∀ W, Below w.heap.size w W → W.cell? (a1.add k) = some (.int .i64 (rd l1 (k : Int))) from fun W hW => by
          obtain ⟨a2, hA2, hx2⟩ := Kd.at_int (Kd.C_below HR1.out hW) (k : Int) (by omega) (by omega)
          injection hA2 with hA2
          subst hA2
          rw [Int.toNat_natCast] at hx2
          exact hx2)
        go_upto_region 9 with fail
        refine start_ (n := 10) (S := fun w' => w'.cell? ⟨m, 1, none⟩ = some (.slice Av k cv) ∧ w'.cell? (a1.add k) = some (.int .i64 (rd l1 (k : Int)))) (ds := [9]) #[false, false, false, false, false, false, false, false, false, false] (by kernel_rfl) rfl rfl ⟨(World.cell?_drew _ _).trans c_1, (World.cell?_drew _ _).trans hx⟩ (fun hHeld => ?_)
        refine with_tabW rrun12.tab9 rrun12.bits9 (fun HT_ HW_ => ?_)
        have HF5 := Lib.hid HF.out.drew
        have HV5 := Lib.hid (show wr.drew.ownsRow w.heap.size 3 1 (.slice Av k cv) (l1.take k).length (n64 (l1.take k)) from HVV.out)
        have HQ5 := Lib.hid (show wr.drew.ownsRow w.heap.size 3 1 (.slice (some ⟨bp, 0, none⟩) P P) P (n64 (List.replicate P 0)) from HVQ.out)
        clear c_0 c_1 c_2 c_3 c_4 c_5 c_6 c_7 c_8 c_9 y0 y1 y2 y3 k0 k1 k2 fo fz hx
        generalize wr.drew = w5 at HF5 HV5 HQ5 hHeld ⊢
        refine pure_ (i := 0) (N := some 55) (v := ?_) (a' := ?_) #[true, false, false, false, false, false, false, false, false, false] rfl rfl (any_of HT_.out (by kernel_rfl)) (fun _ _ _ h => h) (Or.inl ⟨by rfl, ?_⟩) ?_ ?_
        rotate_left
        · intro w'
          go_simp
          first | done | (with_reducible rfl)
        rotate_left
        · simp only [Act.put, List.setIfInBounds_toArray, List.set_cons_zero, List.set_cons_succ, i64_w, i32_w]
          rfl
        refine pure_ (i := 2) (N := some 57) (v := ?_) (a' := ?_) #[true, false, true, false, false, false, false, false, false, false] rfl rfl (any_of HT_.out (by kernel_rfl)) (fun _ _ _ h => h) (Or.inl ⟨by rfl, ?_⟩) ?_ ?_
        rotate_left
        · intro w'
          go_simp
          first | done | (with_reducible rfl)
        rotate_left
        · simp only [Act.put, List.setIfInBounds_toArray, List.set_cons_zero, List.set_cons_succ, i64_w, i32_w]
          rfl
        refine pure_ (i := 3) (N := some 58) (v := ?_) (a' := ?_) #[true, false, true, true, false, false, false, false, false, false] rfl rfl (any_of HT_.out (by kernel_rfl)) (fun _ _ _ h => h) (Or.inl ⟨by rfl, ?_⟩) ?_ ?_
        rotate_left
        · intro w'
          go_simp
          first | done | (with_reducible rfl)
        rotate_left
        · simp only [Act.put, List.setIfInBounds_toArray, List.set_cons_zero, List.set_cons_succ, i64_w, i32_w]
          rfl
        refine take_ (i := 1) (N := some 56) (v := ?_) (a' := ?_) #[true, true, true, true, false, false, false, false, false, false] rfl rfl (take_ofW HT_.out HW_.out (by kernel_rfl)) (fun _ _ _ h => h) (Or.inl ⟨by rfl, ?_⟩) hHeld ?_ ?_
        rotate_left
        · rintro w' ⟨s0, s1⟩
          go_simp
          first | done | (with_reducible rfl)
        rotate_left
        · simp only [Act.put, List.setIfInBounds_toArray, List.set_cons_zero, List.set_cons_succ, i64_w, i32_w]
          rfl
        refine pure_ (i := 4) (N := some 59) (v := ?_) (a' := ?_) #[true, true, true, true, true, false, false, false, false, false] rfl rfl (any_of HT_.out (by kernel_rfl)) (fun _ _ _ h => h) (Or.inl ⟨by rfl, ?_⟩) ?_ ?_
        rotate_left
        · intro w'
          go_simp
          first | done | (with_reducible rfl)
        rotate_left
        · simp only [Act.put, List.setIfInBounds_toArray, List.set_cons_zero, List.set_cons_succ, i64_w, i32_w]
          rfl
        refine take_ (i := 5) (N := some 60) (v := ?_) (a' := ?_) #[true, true, true, true, true, true, false, false, false, false] rfl rfl (take_ofW HT_.out HW_.out (by kernel_rfl)) (fun _ _ _ h => h) (Or.inl ⟨by rfl, ?_⟩) hHeld ?_ ?_
        rotate_left
        · rintro w' ⟨s0, s1⟩
          go_simp
          first | done | (with_reducible rfl)
        rotate_left
        · simp only [Act.put, List.setIfInBounds_toArray, List.set_cons_zero, List.set_cons_succ, i64_w, i32_w]
          rfl
        have hal : ∀ o, Below w5.heap.size w5 (w5.alloc o) := fun o => (Below.refl _ _).alloc (Nat.le_refl _) o
        refine one_ (i := 6) (N := some 61) #[true, true, true, true, true, true, true, false, false, false] rfl rfl (one_of HT_.out (by kernel_rfl)) (by decide) (fun K hK => ?_)
        refine value_ (w1 := ?_) (v := ?_) (by rfl) rfl ?_ ?_
        rotate_left 2
        · go_simp
          constructor
          · rfl
          · rfl
        refine hK.out _ _ ⟨((hal _).cell (World.block_lt_of_cell? w5 _ hHeld.1)).trans hHeld.1, ((hal _).cell (World.block_lt_of_cell? w5 _ hHeld.2)).trans hHeld.2⟩ (fun hHeld => ?_)
        clear hK K
        refine norm_ (a' := ?_) ?_ ?_
        rotate_left
        · show Act.put _ (some 61) _ = _
          simp only [Act.put, List.setIfInBounds_toArray, List.set_cons_zero, List.set_cons_succ, i64_w, i32_w]
          rfl
        clear hal
        refine one_ (i := 7) (N := some 62) #[true, true, true, true, true, true, true, true, false, false] rfl rfl (one_of HT_.out (by kernel_rfl)) (by decide) (fun K hK => ?_)
        have hk3 : (l1.take k).length = k := by rw [List.length_take]; omega
        refine step_append_cells (w0 := w) w.heap.size (by rfl) (.tmp 56) (.tmp 61) 25 3 (.int .i64 0) 1 8 rfl Tryd.underlying25 info3 rfl (by decide) (by decide) (.slice Av k cv) (l1.take k).length (n64 (l1.take k)) [.int .i64 (rd l1 (k : Int))] rfl rfl rfl ?c1 HV5.out HF5.out.b HF5.out.b.size (by rw [hk3]; omega) ?_
        (case c1 => intro z hz; rw [List.mem_singleton.1 hz]; rfl)
        intro v1 w6 hv1 hb6 hg6 hat6
        rw [hk3] at hv1
        obtain ⟨A6, c6, hv6, _, _⟩ := own_slice hv1
        subst hv6
        have HV6 := Lib.hid hv1
        have HF6 := Lib.hid (HF5.out.grown hg6 (fun q hq => own_typed HV5.out q hq) hb6)
        have HQ6 := Lib.hid (own_step HQ5.out hg6 (fun q h1 h2 => HAP.out q h2.symm h1))
        have HA6 := Lib.hid (ap_append HAP.out.symm HQ5.out hat6).symm
        clear hv1 hb6 hg6 hat6
        obtain ⟨c_0, c_1, c_2, c_3, c_4, c_5, c_6, c_7, c_8, c_9⟩ := HF6.out.so
        obtain ⟨y0, y1, y2, y3⟩ := HF6.out.sz
        obtain ⟨k0, k1, k2⟩ := HF6.out.sk
        have fo := HF6.out.fo
        have fz := HF6.out.fz
        refine hK.out _ _ ⟨c_1, HXW.out _ HF6.out.b⟩ (fun hHeld => ?_)
        clear hK K
        refine norm_ (a' := ?_) ?_ ?_
        rotate_left
        · show Act.put _ (some 62) _ = _
          simp only [Act.put, List.setIfInBounds_toArray, List.set_cons_zero, List.set_cons_succ, i64_w, i32_w]
          rfl
        refine pure_ (i := 8) (N := some 63) (v := ?_) (a' := ?_) #[true, true, true, true, true, true, true, true, true, false] rfl rfl (any_of HT_.out (by kernel_rfl)) (fun _ _ _ h => h) (Or.inl ⟨by rfl, ?_⟩) ?_ ?_
        rotate_left
        · intro w'
          go_simp
          first | done | (with_reducible rfl)
        rotate_left
        · simp only [Act.put, List.setIfInBounds_toArray, List.set_cons_zero, List.set_cons_succ, i64_w, i32_w]
          rfl
        refine last_ (i := 9) (N := none) #[true, true, true, true, true, true, true, true, true, true] rfl rfl (one_of HT_.out (by kernel_rfl)) (by decide) (fun K hK => ?_)
        refine skip_ (w1 := ?_) (by rfl) rfl ?_ ?_
        rotate_left
        · go_simp
          rfl
        refine hK.out _ _ ?_
        clear hK K
        refine done_ (done_of HT_.out (by kernel_rfl)) ?_
        go_wp2_with fail
        go_roundw
        case rel =>
          refine ⟨k + 1, by omega, by go_num, ⟨.slice A6 (k + 1) c6, HF6.out.set 1 (.slice A6 (k + 1) c6) rfl, ?_, own_far HQ6.out (own_ne HF6.out.s (by decide) HQ6.out), HA6.out⟩, by rw [take_any l1 k hlt, HAN.out, HOD.out]; rfl⟩
          have h := own_far (j := 1) (u := .slice A6 (k + 1) c6) HV6.out (own_ne HF6.out.s (by decide) HV6.out)
          have hl : (l1.take (k + 1)).length = k + 1 := by rw [List.length_take]; omega
          rw [hl, take_rd l1 k hlt]
          unfold n64 at h ⊢
          rw [List.map_append]
          exact h
        case measure => simp [intOf]; omega
      · have HRE := Lib.hid (HRR.out.trans (if_pos (any_at l1 k hlt hod)))
        by_cases h1 : rd l1 (k : Int) < 0
        · have e1 : decide (rd l1 (k : Int) < 0) = true := decide_eq_true h1
          clear hod
          go_wp2_with fail
          rw [HRE.out]
          exact r_err 1 HF.out.o HF.out.b _ rfl rfl
        · have e1 : decide (rd l1 (k : Int) < 0) = false := decide_eq_false h1
          have e2 : decide (65535 < rd l1 (k : Int)) = true := decide_eq_true (by
            unfold oddP at hod
            rw [e1, Bool.false_or] at hod
            have := of_decide_eq_true hod
            omega)
          clear hod
          go_wp2_with fail
          rw [HRE.out]
          exact r_err 1 HF.out.o HF.out.b _ rfl rfl
    · have hkl : k = l1.length := by omega
      subst hkl
      have hbad : l1.any oddP = false := by have h := HAN.out; rwa [List.take_length] at h
      have HRE := Lib.hid (HRR.out.trans (if_neg (by rw [hbad]; decide)))
      have HL := Lib.hid (show L0 w m #[.slice A0_0 l0_0.length c0_0, .int .i64 (V : Nat), .int .i64 (P : Nat)] (.slice (some ⟨bp, 0, none⟩) P P) P (l1 ++ List.replicate (l1.length - l1.length) 0) wr by
        rw [Nat.sub_self, List.replicate_zero, List.append_nil]
        have h := HVV.out
        rw [List.take_length] at h
        exact ⟨_, HF.out, h, HVQ.out, HAP.out⟩)
      have HBAD := Lib.hid hbad
      clear hbad c_0 c_1 c_2 c_3 c_4 c_5 c_6 c_7 c_8 c_9 y0 y1 y2 y3 k0 k1 k2 fo fz HF HVV HVQ HAP HAN hlk hlt hk
      go_wp2_with fail
      go_loopw [] (fun W => ∃ k : Nat, l1.length ≤ k ∧ k ≤ V ∧ L0 w m #[.slice A0_0 l0_0.length c0_0, .int .i64 (V : Nat), .int .i64 (P : Nat)] (.slice (some ⟨bp, 0, none⟩) P P) P (l1 ++ List.replicate (k - l1.length) 0) W) (fun W => V - lenOf m W)
      case atStart => exact ⟨l1.length, Nat.le_refl _, hlV, HL.out⟩
      case round =>
        obtain ⟨k, hk1, hk2, ⟨vv, hF, hvv, hvp, hap⟩⟩ := hrel
        have HF := Lib.hid hF
        have HVV := Lib.hid hvv
        have HVQ := Lib.hid hvp
        have HAP := Lib.hid hap
        clear hF hvv hvp hap HL
        have hln : (l1 ++ List.replicate (k - l1.length) (0 : Int)).length = k := by rw [List.length_append, List.length_replicate]; omega
        have HLN := Lib.hid hln
        obtain ⟨Av, cv, hev, _, _⟩ := own_slice HVV.out
        rw [hln] at hev
        subst hev
        clear hln
        obtain ⟨c_0, c_1, c_2, c_3, c_4, c_5, c_6, c_7, c_8, c_9⟩ := HF.out.so
        obtain ⟨y0, y1, y2, y3⟩ := HF.out.sz
        obtain ⟨k0, k1, k2⟩ := HF.out.sk
        have fo := HF.out.fo
        have fz := HF.out.fz
        have HLO := Lib.hid (show lenOf m wr = k by unfold lenOf; rw [c_1])
        by_cases hlt : k < V
        · have hd : decide (k < V) = true := decide_eq_true hlt
          go_wp2_with (at_builtin; refine print_append_cells (w0 := w) w.heap.size (by rfl) _ _ 25 3 (.int .i64 0) 1 8 rfl Tryd.underlying25 info3 rfl (by decide) (by decide) (.slice Av k cv) (l1 ++ List.replicate (k - l1.length) (0 : Int)).length (n64 (l1 ++ List.replicate (k - l1.length) (0 : Int))) [.int .i64 0] rfl rfl rfl ?c1 HVV.out HF.out.b HF.out.b.size ?c2 ?_; (case c1 => simp [Value.oneCell']); (case c2 => rw [HLN.out]; omega); intro v1 w6 hv1 hb6 hg6 hat6; rw [HLN.out] at hv1; obtain ⟨A6, c6, hv6, _, _⟩ := own_slice hv1; subst hv6; have HV6 := Lib.hid hv1; have HF6 := Lib.hid (HF.out.grown hg6 (fun q hq => own_typed HVV.out q hq) hb6); have HQ6 := Lib.hid (own_step HVQ.out hg6 (fun q h1 h2 => HAP.out q h2.symm h1)); have HA6 := Lib.hid (ap_append HAP.out.symm HVQ.out hat6).symm; clear hv1 hb6 hg6 hat6 c_0 c_1 c_2 c_3 c_4 c_5 c_6 c_7 c_8 c_9 y0 y1 y2 y3 k0 k1 k2 fo fz; obtain ⟨c_0, c_1, c_2, c_3, c_4, c_5, c_6, c_7, c_8, c_9⟩ := HF6.out.so; obtain ⟨y0, y1, y2, y3⟩ := HF6.out.sz; obtain ⟨k0, k1, k2⟩ := HF6.out.sk; have fo := HF6.out.fo; have fz := HF6.out.fz)
          go_roundw
          case rel =>
            refine ⟨k + 1, by omega, by omega, ⟨.slice A6 (k + 1) c6, HF6.out.set 1 (.slice A6 (k + 1) c6) rfl, ?_, own_far HQ6.out (own_ne HF6.out.s (by decide) HQ6.out), HA6.out⟩⟩
            have h := own_far (j := 1) (u := .slice A6 (k + 1) c6) HV6.out (own_ne HF6.out.s (by decide) HV6.out)
            have hl : (l1 ++ List.replicate (k + 1 - l1.length) (0 : Int)).length = k + 1 := by rw [List.length_append, List.length_replicate]; omega
            have he : l1 ++ List.replicate (k + 1 - l1.length) (0 : Int) = l1 ++ List.replicate (k - l1.length) 0 ++ [0] := by rw [show k + 1 - l1.length = (k - l1.length) + 1 by omega, List.replicate_succ', List.append_assoc]
            rw [hl, he]
            unfold n64 at h ⊢
            rw [List.map_append]
            exact h
          case measure =>
            have e : lenOf m (w6.setCell ⟨m, 1, none⟩ (.slice A6 (k + 1) c6)) = k + 1 := by
              unfold lenOf
              rw [show (w6.setCell ⟨m, 1, none⟩ (.slice A6 (k + 1) c6)).cell? ⟨m, 1, none⟩ = some (.slice A6 (k + 1) c6) from (blk_cell (HF6.out.set 1 (.slice A6 (k + 1) c6) rfl).s 1).trans rfl]
            rw [e, HLO.out]
            omega
        · have hd : decide (k < V) = false := decide_eq_false hlt
          have hkV : V = k := by omega
          subst hkV
          have HJ := Lib.hid (show RunJ w m #[.slice A0_0 l0_0.length c0_0, .int .i64 (V : Nat), .int .i64 (P : Nat)] (insF l0_0) l0_0.length l2 P (runP (insF l0_0) l0_0.length l2 P 3002 (initS V P l1)) wr from
            ⟨initS V P l1, 0, _, _, _, _, HF.out, RD.of_own (by have h := HVV.out; show wr.ownsRow _ _ _ _ (l1 ++ List.replicate ((V : Int).toNat - l1.length) (0 : Int)).length (n64 (l1 ++ List.replicate ((V : Int).toNat - l1.length) (0 : Int))); rw [Int.toNat_natCast]; rw [HLN.out] at h ⊢; exact h), RD.nil _, RD.of_own (by have h := HVQ.out; show wr.ownsRow _ _ _ _ (List.replicate ((P : Int).toNat) (0 : Int)).length (n64 (List.replicate ((P : Int).toNat) (0 : Int))); rw [Int.toNat_natCast, List.length_replicate]; exact h), RD.nil _, .inl ⟨rfl, init_gd V P l1 hV hlV HBAD.out, rfl⟩⟩)
          generalize hr : runP (insF l0_0) l0_0.length l2 P 3002 (initS V P l1) = r at HJ HRE
          clear hr HF HVV HVQ HAP HLN HLO
          go_wp2_with fail
          go_loopw [] (fun W => RunJ w m #[.slice A0_0 l0_0.length c0_0, .int .i64 (V : Nat), .int .i64 (P : Nat)] (insF l0_0) l0_0.length l2 P r W) (fun W => msr m W)
          case atStart => exact HJ.out
          case round =>
            obtain ⟨s, code', vv, vs, vp, vn, hF, hrv, hrs, hrp, hrn, hJ⟩ := hrel
            have HF := Lib.hid hF
            have HRV := Lib.hid hrv
            have HRS := Lib.hid hrs
            have HRP := Lib.hid hrp
            have HRN := Lib.hid hrn
            have HMS := Lib.hid (msr_eq hF)
            clear hF hrv hrs hrp hrn HJ
            obtain ⟨Av, cv, ev, _⟩ := HRV.out
            obtain ⟨As, cs, es, _⟩ := HRS.out
            obtain ⟨Ap_, cp, ep, _⟩ := HRP.out
            obtain ⟨An, cn, en, _⟩ := HRN.out
            subst ev
            subst es
            subst ep
            subst en
            have hmo : w.heap.size + 1 ≠ m := by have := HF.out.n3; omega
            obtain ⟨c_0, c_1, c_2, c_3, c_4, c_5, c_6, c_7, c_8, c_9⟩ := HF.out.so
            obtain ⟨y0, y1, y2, y3⟩ := HF.out.sz
            obtain ⟨k0, k1, k2⟩ := HF.out.sk
            have fo := HF.out.fo
            have fz := HF.out.fz
            rcases hJ with ⟨rfl, hG, hrun⟩ | ⟨hcd, hdn, hrr⟩
            · rcases hdn : s.done with _ | _
              · have hst := rstep_any A0_0 c0_0 l0_0 (V : Int) (P : Int) s Av As Ap_ An cv cs cp cn A2 c2 l2 (Kd.C_below HR0.out HF.out.b) HRV.out HRS.out HRP.out HRN.out (Kd.C_below HR2.out HF.out.b) ⟨hG.t0, hG.s4, hG.v4, by have h1 := hG.nt; have h2 := hG.t3; omega, by have h1 := hG.pP; omega, hG.pP, hG.b0, by have h1 := hG.b1; have h2 := hG.t3; omega, by omega, hl2, hG.vr, hdn⟩
                have hrn : runP (insF l0_0) l0_0.length l2 P ((3001 - s.steps.toNat) + 1) s = r := by rw [← hrun]; congr 1; have h1 := hG.t3; have h2 := hG.t0; omega
                unfold runP at hrn
                rw [hdn, if_neg (by decide)] at hrn
                rw [hdn] at c_8
                have HG := Lib.hid hG
                have HDN := Lib.hid hdn
                clear hG hrun hdn
                rcases hsp : stepP (insF l0_0) l0_0.length l2 P s with code2 | s1
                · rw [hsp] at hst hrn
                  have HST := Lib.hid hst
                  have HRN2 := Lib.hid hrn
                  clear hst hrn hsp
                  go_wp2_with (go_at_call 19; refine (HST.out).mono ?_; rintro e w5 ⟨s', cd, v1, v2, v3, v4, ⟨hq1, rfl, hq3⟩, rfl, g1, g2, g3, g4, hb5⟩; have HQ1 := Lib.hid hq1; clear hq1; have G1 := Lib.hid g1; have G2 := Lib.hid g2; have G3 := Lib.hid g3; have G4 := Lib.hid g4; obtain ⟨B1, d1, r1, _⟩ := G1.out; obtain ⟨B2, d2, r2, _⟩ := G2.out; obtain ⟨B3, d3, r3, _⟩ := G3.out; obtain ⟨B4, d4, r4, _⟩ := G4.out; subst r1; subst r2; subst r3; subst r4; have HF5 := Lib.hid (HF.out.below hb5); clear g1 g2 g3 g4 hb5 c_0 c_1 c_2 c_3 c_4 c_5 c_6 c_7 c_8 c_9 y0 y1 y2 y3 k0 k1 k2 fo fz; obtain ⟨c_0, c_1, c_2, c_3, c_4, c_5, c_6, c_7, c_8, c_9⟩ := HF5.out.so; obtain ⟨y0, y1, y2, y3⟩ := HF5.out.sz; obtain ⟨k0, k1, k2⟩ := HF5.out.sk; have fo := HF5.out.fo; have fz := HF5.out.fz)
                  go_roundw
                  case rel => exact ⟨s', cd, _, _, _, _, put10q HF5.out _ _ _ _ _ _ _ _ _ _, rd10 G1.out HF5.out _ _ _ _ _ _ _ _ _ _, rd10 G2.out HF5.out _ _ _ _ _ _ _ _ _ _, rd10 G3.out HF5.out _ _ _ _ _ _ _ _ _ _, rd10 G4.out HF5.out _ _ _ _ _ _ _ _ _ _, .inr ⟨hq3, HQ1.out, HRN2.out.symm⟩⟩
                  case measure =>
                    have e := msr_eq (vv := .slice B1 s'.vars.length d1) (vs := .slice B2 s'.stack.length d2) (vp := .slice B3 s'.pts.length d3) (vn := .slice B4 s'.notes.length d4) (pc := s'.pc) (fin := s'.fin) (steps := s'.steps) (br := s'.br) (d := s'.done) (code' := cd) (put10q HF5.out _ _ _ _ _ _ _ _ _ _)
                    rw [e, HMS.out, if_neg hq3]
                    simp only [↓reduceIte]
                    have h1 := HG.out.t3
                    omega
                · have hgd := step_gd HG.out HDN.out hsp
                  rw [hsp] at hst hrn
                  have HST := Lib.hid hst
                  have HRN2 := Lib.hid hrn
                  have HGD := Lib.hid hgd
                  clear hst hrn hsp hgd
                  go_wp2_with (go_at_call 19; refine (HST.out).mono ?_; rintro e w5 ⟨s', cd, v1, v2, v3, v4, ⟨rfl, rfl⟩, rfl, g1, g2, g3, g4, hb5⟩; have G1 := Lib.hid g1; have G2 := Lib.hid g2; have G3 := Lib.hid g3; have G4 := Lib.hid g4; obtain ⟨B1, d1, r1, _⟩ := G1.out; obtain ⟨B2, d2, r2, _⟩ := G2.out; obtain ⟨B3, d3, r3, _⟩ := G3.out; obtain ⟨B4, d4, r4, _⟩ := G4.out; subst r1; subst r2; subst r3; subst r4; have HF5 := Lib.hid (HF.out.below hb5); clear g1 g2 g3 g4 hb5 c_0 c_1 c_2 c_3 c_4 c_5 c_6 c_7 c_8 c_9 y0 y1 y2 y3 k0 k1 k2 fo fz; obtain ⟨c_0, c_1, c_2, c_3, c_4, c_5, c_6, c_7, c_8, c_9⟩ := HF5.out.so; obtain ⟨y0, y1, y2, y3⟩ := HF5.out.sz; obtain ⟨k0, k1, k2⟩ := HF5.out.sk; have fo := HF5.out.fo; have fz := HF5.out.fz)
                  go_roundw
                  case rel =>
                    refine ⟨s', 0, _, _, _, _, put10q HF5.out _ _ _ _ _ _ _ _ _ _, rd10 G1.out HF5.out _ _ _ _ _ _ _ _ _ _, rd10 G2.out HF5.out _ _ _ _ _ _ _ _ _ _, rd10 G3.out HF5.out _ _ _ _ _ _ _ _ _ _, rd10 G4.out HF5.out _ _ _ _ _ _ _ _ _ _, .inl ⟨rfl, HGD.out.1, ?_⟩⟩
                    have e : 3002 - s'.steps.toNat = 3001 - s.steps.toNat := by have h1 := HGD.out.2; have h2 := HG.out.t0; omega
                    rw [e]
                    exact HRN2.out
                  case measure =>
                    have e := msr_eq (vv := .slice B1 s'.vars.length d1) (vs := .slice B2 s'.stack.length d2) (vp := .slice B3 s'.pts.length d3) (vn := .slice B4 s'.notes.length d4) (pc := s'.pc) (fin := s'.fin) (steps := s'.steps) (br := s'.br) (d := s'.done) (code' := 0) (put10q HF5.out _ _ _ _ _ _ _ _ _ _)
                    rw [e, HMS.out]
                    simp only [↓reduceIte]
                    have h1 := HGD.out.2
                    have h2 := HG.out.t0
                    have h3 := HGD.out.1.t3
                    omega
              · have hre : r = .ok s := by
                  rw [← hrun, show 3002 - s.steps.toNat = (3001 - s.steps.toNat) + 1 by have := hG.t3; have := hG.t0; omega]
                  unfold runP
                  rw [hdn, if_pos rfl]
                have HRX := Lib.hid hre
                rw [hdn] at c_8
                clear hrun hre
                go_wp2_with fail
                rw [HRE.out, HRX.out]
                exact r_ok s HF.out.o HF.out.b HRP.out HRN.out _ rfl rfl
            · rw [hdn] at c_8
              have HRX := Lib.hid hrr
              have hce : (code' == 0) = false := by simpa using hcd
              have hce2 : (code' != 0) = true := by simpa using hcd
              clear hrr
              go_upto_region 15 with fail
              refine start_ (n := 5) (S := fun w' => w'.cell? ⟨m, 9, none⟩ = some (.int .i64 code')) (ds := []) #[false, false, false, false, false] (by kernel_rfl) rfl rfl ((World.cell?_drew _ _).trans c_9) (fun hHeld => ?_)
              refine with_tabW rrun12.tab15 rrun12.bits15 (fun HT_ HW_ => ?_)
              have HF5 := Lib.hid HF.out.drew
              clear c_0 c_1 c_2 c_3 c_4 c_5 c_6 c_7 c_8 c_9 y0 y1 y2 y3 k0 k1 k2 fo fz hcd
              generalize wr.drew = w5 at HF5 hHeld ⊢
              obtain ⟨c_0, c_1, c_2, c_3, c_4, c_5, c_6, c_7, c_8, c_9⟩ := HF5.out.so
              obtain ⟨y0, y1, y2, y3⟩ := HF5.out.sz
              obtain ⟨k0, k1, k2⟩ := HF5.out.sk
              have fo := HF5.out.fo
              have fz := HF5.out.fz
              refine pure_ (i := 0) (N := some 90) (v := ?_) (a' := ?_) #[true, false, false, false, false] rfl rfl (any_of HT_.out (by kernel_rfl)) (fun _ _ _ h => h) (Or.inl ⟨by rfl, ?_⟩) ?_ ?_
              rotate_left
              · intro w'
                go_simp
                first | done | (with_reducible rfl)
              rotate_left
              · simp only [Act.put, List.setIfInBounds_toArray, List.set_cons_zero, List.set_cons_succ, i64_w, i32_w]
                rfl
              refine pure_ (i := 1) (N := some 91) (v := ?_) (a' := ?_) #[true, true, false, false, false] rfl rfl (any_of HT_.out (by kernel_rfl)) (fun _ _ _ h => h) (Or.inl ⟨by rfl, ?_⟩) ?_ ?_
              rotate_left
              · intro w'
                go_simp
                first | done | (with_reducible rfl)
              rotate_left
              · simp only [Act.put, List.setIfInBounds_toArray, List.set_cons_zero, List.set_cons_succ, i64_w, i32_w]
                rfl
              refine take_ (i := 2) (N := some 92) (v := ?_) (a' := ?_) #[true, true, true, false, false] rfl rfl (take_ofW HT_.out HW_.out (by kernel_rfl)) (fun _ _ _ h => h) (Or.inl ⟨by rfl, ?_⟩) hHeld ?_ ?_
              rotate_left
              · rintro w' s0
                go_simp
                first | done | (with_reducible rfl)
              rotate_left
              · simp only [Act.put, List.setIfInBounds_toArray, List.set_cons_zero, List.set_cons_succ, i64_w, i32_w]
                rfl
              refine one_ (i := 3) (N := none) #[true, true, true, true, false] rfl rfl (one_of HT_.out (by kernel_rfl)) (by decide) (fun K hK => ?_)
              refine skip_ (w1 := ?_) (by rfl) rfl ?_ ?_
              rotate_left
              · go_simp
                rfl
              refine hK.out _ _ ((World.cell?_setCell_other _ _ _ _ (fun e => hmo (by injection e))).trans ((World.cell?_setCell_other _ _ _ _ (fun e => hmo (by injection e))).trans ((World.cell?_setCell_other _ _ _ _ (fun e => hmo (by injection e))).trans ((World.cell?_setCell_other _ _ _ _ (fun e => hmo (by injection e))).trans hHeld)))) (fun hHeld => ?_)
              clear hK K
              refine pure_ (i := 4) (N := some 7) (v := ?_) (a' := ?_) #[true, true, true, true, true] rfl rfl (any_of HT_.out (by kernel_rfl)) (fun _ _ _ h => h) (Or.inl ⟨by rfl, ?_⟩) ?_ ?_
              rotate_left
              · intro w'
                go_simp
                first | done | (with_reducible rfl)
              rotate_left
              · simp only [Act.put, List.setIfInBounds_toArray, List.set_cons_zero, List.set_cons_succ, i64_w, i32_w]
                rfl
              refine done_ (done_of HT_.out (by kernel_rfl)) ?_
              go_wp2_with fail
              rw [HRE.out, HRX.out]
              exact r_err code' HF5.out.o HF5.out.b _ rfl rfl
end Go.Proofs.YtbgfkepnlpgagaaDoor.P
