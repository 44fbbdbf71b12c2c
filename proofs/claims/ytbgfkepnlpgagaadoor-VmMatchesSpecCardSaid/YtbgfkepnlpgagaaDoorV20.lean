/- The reference's step: good ways. -/
import Derived.Test.YtbgfkepnlpgagaaDoorV18
namespace Go.Proofs.YtbgfkepnlpgagaaDoor.P
open Go.RowKit Go.Proofs.YtbgfkepnlpgagaaDoorW.PrintWords Go.Proofs.YtbgfkepnlpgagaaDoorW.PrintLast Go.Proofs.YtbgfkepnlpgagaaDoorW.PrintMore
attribute [local go_sem] max2_int min2_int max_two min_two max_three min_three max_four min_four
set_option linter.unusedVariables false
set_option linter.unusedSimpArgs false
set_option maxRecDepth 100000 in
set_option maxHeartbeats 4000000 in
theorem rstep_ok2 {w : World} (cA : Option Addr) (cC : Nat) (ins : List S42) (V P : Int) (s : St) (vA sA pA nA : Option Addr) (vC sC pC nC : Nat) (gA : Option Addr) (gC : Nat) (gl : List Int) (xs : List Int) (hr0 : Kd.C k42 w cA ins.length ins) (hv : RD w (.slice vA s.vars.length vC) s.vars) (hs : RD w (.slice sA xs.length sC) xs) (hp : RD w (.slice pA s.pts.length pC) s.pts) (hn : RD w (.slice nA s.notes.length nC) s.notes) (h3 : s.steps < 3000) (h30 : 0 ≤ s.steps) (h400 : xs.length ≤ 400) (n : Nat) (hnL : n < ins.length) (hnB : n ≤ 9000000000000000000) (j : Nat) (hj : j < s.vars.length) (b : Int) (hop : insF ins n = (2, ((j : Nat) : Int), b)) (hv0 : 0 ≤ rd s.vars ((j : Nat) : Int)) (r : Except Int St) (hr : pushP { s with pc := (n : Int) + 1, steps := s.steps + 1, stack := xs, done := false } (rd s.vars ((j : Nat) : Int)) = r) :
    Calls Tryd.prog 19 #[.agg #[.slice cA ins.length cC, .int .i64 V, .int .i64 P], .agg (stC (n : Nat) (.slice vA s.vars.length vC) (.slice sA xs.length sC) (.slice pA s.pts.length pC) (.slice nA s.notes.length nC) s.fin s.steps s.br false 0), .slice gA gl.length gC] w (RLeft w (r)) := by
  have HOP := Lib.hid hop
  clear hop
  have hcap := (RD.C hs).2.1
  have HRR := Lib.hid hr
  clear hr
  have hp0 : decide (0 ≤ rd s.vars ((j : Nat) : Int)) = true := decide_eq_true hv0
  have hd : decide (3000 ≤ s.steps) = false := decide_eq_false (by omega)
  have hd1 : decide ((n : Int) < 0) = false := decide_eq_false (by omega)
  have hd2 : decide (ins.length ≤ n) = false := decide_eq_false (by omega)
  have hja : decide (((j : Nat) : Int) < 0) = false := decide_eq_false (by omega)
  have hjb : decide (s.vars.length ≤ j) = false := decide_eq_false (by omega)
  have HV := Lib.hid hv
  have HS := Lib.hid hs
  have HP := Lib.hid hp
  have HN := Lib.hid hn
  have HR0 := Lib.hid hr0
  have HPRE := Lib.hid (pre_world w (.cells #[.slice cA ins.length cC, .int .i64 V, .int .i64 P] 24) (.cells #[.int .i64 (n : Nat), .slice vA s.vars.length vC, .slice sA xs.length sC, .slice pA s.pts.length pC, .slice nA s.notes.length nC, .int .i64 s.fin, .int .i64 s.steps, .int .i64 s.br, .bool false, .int .i64 0] 55) (.cells #[.int .i64 0, .slice none 0 0, .slice none 0 0, .slice none 0 0, .slice none 0 0, .int .i64 0, .int .i64 0, .int .i64 0, .bool false, .int .i64 0] 55))
  clear hv hs hp hn hr0
  go_enter Tryd.func19, Tryd.ntmps19
  go_upto_region 1 with fail
  obtain ⟨ho, hz, hc, hs3, hB⟩ := HPRE.out
  generalize hw3 : ((w.alloc (.cells #[.slice cA ins.length cC, .int .i64 V, .int .i64 P] 24)).alloc (.cells #[.int .i64 (n : Nat), .slice vA s.vars.length vC, .slice sA xs.length sC, .slice pA s.pts.length pC, .slice nA s.notes.length nC, .int .i64 s.fin, .int .i64 s.steps, .int .i64 s.br, .bool false, .int .i64 0] 55)).alloc (.cells #[.int .i64 0, .slice none 0 0, .slice none 0 0, .slice none 0 0, .slice none 0 0, .int .i64 0, .int .i64 0, .int .i64 0, .bool false, .int .i64 0] 55) = w3 at ho hz hc hs3 hB ⊢
  clear hw3 HPRE
  have c0 : w3.cell? ⟨w.heap.size + 1, 0, none⟩ = some (.int .i64 (n : Nat)) := (blk_cell ho 0).trans rfl
  have c1 : w3.cell? ⟨w.heap.size + 1, 1, none⟩ = some (.slice vA s.vars.length vC) := (blk_cell ho 1).trans rfl
  have c2 : w3.cell? ⟨w.heap.size + 1, 2, none⟩ = some (.slice sA xs.length sC) := (blk_cell ho 2).trans rfl
  have c3 : w3.cell? ⟨w.heap.size + 1, 3, none⟩ = some (.slice pA s.pts.length pC) := (blk_cell ho 3).trans rfl
  have c4 : w3.cell? ⟨w.heap.size + 1, 4, none⟩ = some (.slice nA s.notes.length nC) := (blk_cell ho 4).trans rfl
  have c5 : w3.cell? ⟨w.heap.size + 1, 5, none⟩ = some (.int .i64 s.fin) := (blk_cell ho 5).trans rfl
  have c6 : w3.cell? ⟨w.heap.size + 1, 6, none⟩ = some (.int .i64 s.steps) := (blk_cell ho 6).trans rfl
  have c7 : w3.cell? ⟨w.heap.size + 1, 7, none⟩ = some (.int .i64 s.br) := (blk_cell ho 7).trans rfl
  have c8 : w3.cell? ⟨w.heap.size + 1, 8, none⟩ = some (.bool false) := (blk_cell ho 8).trans rfl
  have c9 : w3.cell? ⟨w.heap.size + 1, 9, none⟩ = some (.int .i64 0) := (blk_cell ho 9).trans rfl
  have y0 : w3.cell? ⟨w.heap.size + 1 + 1, 0, none⟩ = some (.int .i64 0) := (blk_cell hz 0).trans rfl
  have y1 : w3.cell? ⟨w.heap.size + 1 + 1, 1, none⟩ = some (.slice none 0 0) := (blk_cell hz 1).trans rfl
  have y2 : w3.cell? ⟨w.heap.size + 1 + 1, 2, none⟩ = some (.slice none 0 0) := (blk_cell hz 2).trans rfl
  have y3 : w3.cell? ⟨w.heap.size + 1 + 1, 3, none⟩ = some (.slice none 0 0) := (blk_cell hz 3).trans rfl
  have y4 : w3.cell? ⟨w.heap.size + 1 + 1, 4, none⟩ = some (.slice none 0 0) := (blk_cell hz 4).trans rfl
  have y5 : w3.cell? ⟨w.heap.size + 1 + 1, 5, none⟩ = some (.int .i64 0) := (blk_cell hz 5).trans rfl
  have y6 : w3.cell? ⟨w.heap.size + 1 + 1, 6, none⟩ = some (.int .i64 0) := (blk_cell hz 6).trans rfl
  have y7 : w3.cell? ⟨w.heap.size + 1 + 1, 7, none⟩ = some (.int .i64 0) := (blk_cell hz 7).trans rfl
  have y8 : w3.cell? ⟨w.heap.size + 1 + 1, 8, none⟩ = some (.bool false) := (blk_cell hz 8).trans rfl
  have y9 : w3.cell? ⟨w.heap.size + 1 + 1, 9, none⟩ = some (.int .i64 0) := (blk_cell hz 9).trans rfl
  have k0 : w3.cell? ⟨w.heap.size, 0, none⟩ = some (.slice cA ins.length cC) := (blk_cell hc 0).trans rfl
  have k1 : w3.cell? ⟨w.heap.size, 1, none⟩ = some (.int .i64 V) := (blk_cell hc 1).trans rfl
  have k2 : w3.cell? ⟨w.heap.size, 2, none⟩ = some (.int .i64 P) := (blk_cell hc 2).trans rfl
  have fo := blk_frozen ho
  have fz := blk_frozen hz
  have HO := Lib.hid ho
  have HZ := Lib.hid hz
  have HCD := Lib.hid hc
  have HB := Lib.hid hB
  have HSZ := Lib.hid (show w.heap.size + 3 ≤ w3.heap.size by omega)
  clear ho hz hc hB hs3
  obtain ⟨ad, hcA, hi0, hi1, hi2⟩ := at_T42 (Kd.C_below HR0.out HB.out) (n : Int) (by omega) (by omega)
  rw [Int.toNat_natCast] at hi0 hi1 hi2
  subst hcA
  have ei0 : w3.cell? (ad.add (n * 3)) = some (.int .i64 2) := hi0.trans (by rw [show (rd_T42 ins n).f0 = 2 from congrArg (·.1) HOP.out])
  have ei1 : w3.cell? ⟨(ad.add (n * 3)).block, (ad.add (n * 3)).off + 1, none⟩ = some (.int .i64 (j : Nat)) := hi1.trans (by rw [show (rd_T42 ins n).f1 = (j : Nat) from congrArg (·.2.1) HOP.out])
  have ei2 : w3.cell? ⟨(ad.add (n * 3)).block, (ad.add (n * 3)).off + 2, none⟩ = some (.int .i64 b) := hi2.trans (by rw [show (rd_T42 ins n).f2 = b from congrArg (·.2.2) HOP.out])
  clear hi0 hi1 hi2
  go_wp2_with fail
  refine (pops_2 _).mono ?_
  rintro e w' ⟨rfl, rfl⟩
  have hgl : w.heap.size + 3 ≤ w3.heap.size := HSZ.out
  have hF4 : Fr w (w3.alloc (.cells #[.int .i64 2, .int .i64 (j : Nat), .int .i64 b] 42)) w3.heap.size #[.slice (some ad) ins.length cC, .int .i64 V, .int .i64 P] #[.int .i64 (n : Nat), .slice vA s.vars.length vC, .slice sA xs.length sC, .slice pA s.pts.length pC, .slice nA s.notes.length nC, .int .i64 s.fin, .int .i64 s.steps, .int .i64 s.br, .bool false, .int .i64 0] #[.int .i64 2, .int .i64 (j : Nat), .int .i64 b] :=
    ⟨(Below.heap_alloc w3 _ _ (blk_lt HO.out)).trans HO.out, (Below.heap_alloc w3 _ _ (blk_lt HZ.out)).trans HZ.out, (Below.heap_alloc w3 _ _ (blk_lt HCD.out)).trans HCD.out, heap_alloc_new w3 _, HB.out.alloc HB.out.size _, by omega, by omega, hgl⟩
  have HF4 := Lib.hid hF4
  clear c0 y0 c1 y1 c2 y2 c3 y3 c4 y4 c5 y5 c6 y6 c7 y7 c8 y8 c9 y9 k0 k1 k2 fo fz ei0 ei1 ei2 hF4 hgl HSZ HO HZ HCD HB
  generalize w3.heap.size = gi at HF4 ⊢
  generalize w3.alloc (.cells #[.int .i64 2, .int .i64 (j : Nat), .int .i64 b] 42) = w4 at HF4 ⊢
  obtain ⟨c0, c1, c2, c3, c4, c5, c6, c7, c8, c9⟩ := HF4.out.so
  obtain ⟨y0, y1, y2, y3, y4, y5, y6, y7, y8, y9⟩ := HF4.out.sz
  obtain ⟨k0, k1, k2⟩ := HF4.out.sk
  obtain ⟨i0, i1, i2⟩ := HF4.out.si
  have fo := HF4.out.fo
  have fz := HF4.out.fz
  go_upto_region 27 with fail
  have HF7 := Lib.hid (((HF4.out.set 2 (.slice sA xs.length sC) (st' := #[.int .i64 (n : Nat), .slice vA s.vars.length vC, .slice sA xs.length sC, .slice pA s.pts.length pC, .slice nA s.notes.length nC, .int .i64 s.fin, .int .i64 s.steps, .int .i64 s.br, .bool false, .int .i64 0]) rfl).set 0 (.int .i64 ((n : Int) + 1)) (st' := #[.int .i64 ((n : Int) + 1), .slice vA s.vars.length vC, .slice sA xs.length sC, .slice pA s.pts.length pC, .slice nA s.notes.length nC, .int .i64 s.fin, .int .i64 s.steps, .int .i64 s.br, .bool false, .int .i64 0]) rfl).set 6 (.int .i64 (s.steps + 1)) (st' := #[.int .i64 ((n : Int) + 1), .slice vA s.vars.length vC, .slice sA xs.length sC, .slice pA s.pts.length pC, .slice nA s.notes.length nC, .int .i64 s.fin, .int .i64 (s.steps + 1), .int .i64 s.br, .bool false, .int .i64 0]) rfl)
  clear c0 y0 c1 y1 c2 y2 c3 y3 c4 y4 c5 y5 c6 y6 c7 y7 c8 y8 c9 y9 k0 k1 k2 i0 i1 i2 fo fz
  generalize ((w4.setCell ⟨w.heap.size + 1, 2, none⟩ (.slice sA xs.length sC)).setCell ⟨w.heap.size + 1, 0, none⟩ (.int .i64 ((n : Int) + 1))).setCell ⟨w.heap.size + 1, 6, none⟩ (.int .i64 (s.steps + 1)) = w7 at HF7 ⊢
  have HSR := Lib.hid (show RD w (.slice sA xs.length sC) xs from HS.out)
  obtain ⟨c0, c1, c2, c3, c4, c5, c6, c7, c8, c9⟩ := HF7.out.so
  obtain ⟨y0, y1, y2, y3, y4, y5, y6, y7, y8, y9⟩ := HF7.out.sz
  obtain ⟨k0, k1, k2⟩ := HF7.out.sk
  obtain ⟨i0, i1, i2⟩ := HF7.out.si
  have fo := HF7.out.fo
  have fz := HF7.out.fz
  clear HF4
  obtain ⟨_, _, hCv⟩ := RD.C (HV.out.below HF7.out.b)
  obtain ⟨av, hvA, hxv⟩ := Kd.at_int hCv ((j : Nat) : Int) (by omega) (by omega)
  subst hvA
  rw [Int.toNat_natCast] at hxv
  clear hCv
  by_cases hl : xs.length < 400
  · have hl0 : decide (400 ≤ (xs.length : Int)) = false := decide_eq_false (by omega)
    have HRE := Lib.hid (HRR.out.symm.trans (if_pos hl))
    clear hl
    go_wp2_with (first
    | ((with_reducible refine gate_dst (N := 275) rfl ?_); refine Kd.R_lit (Kd.int .i64) (w0 := w) w.heap.size 3 ?hg (N := 275) ?hd (xs := ([] : List Int)) (inner := []) (ok := fun _ => True) (okp := fun _ => True) ?hr ?hp (fun _ hk => hk) trivial HF7.out.b HF7.out.b.size (by simp) ?_; (case hd => rfl); (case hg => rfl); (case hr => first | (go_simp; done) | (go_simp; rfl)); (case hp => exact (Reps.none _ _)); intro v8 w8 ho8 hb8 hg8 _; have HO8 := Lib.hid ho8; have HF8 := Lib.hid (HF7.out.grown hg8 (by simp) hb8); clear c0 y0 c1 y1 c2 y2 c3 y3 c4 y4 c5 y5 c6 y6 c7 y7 c8 y8 c9 y9 k0 k1 k2 i0 i1 i2 fo fz; obtain ⟨c0, c1, c2, c3, c4, c5, c6, c7, c8, c9⟩ := HF8.out.so; obtain ⟨y0, y1, y2, y3, y4, y5, y6, y7, y8, y9⟩ := HF8.out.sz; obtain ⟨k0, k1, k2⟩ := HF8.out.sk; obtain ⟨i0, i1, i2⟩ := HF8.out.si; have fo := HF8.out.fo; have fz := HF8.out.fz; clear ho8 hb8 hg8)
    | ((with_reducible refine gate_builtin (b := .append) (xs := #[.tmp 275, .tmp 277]) rfl ?_); at_builtin; refine Kd.R_append_rows (Kd.int .i64) (w0 := w) w.heap.size rfl (.tmp 275) (.tmp 277) 25 3 (.int .i64 0) 8 rfl Tryd.underlying25 info3 rfl (by decide) (by omega) v8 [] xs _ _ _ (fun _ => True) (fun _ => False) rfl rfl HO8.out (RD.C (HSR.out.below HF8.out.b)).2.2 (fun _ _ h => h) (fun _ h => h.elim) (fun _ _ => trivial) HF8.out.b HF8.out.b.size ?aL ?_; (case aL => simp; omega); intro v9 w9 ho9 hb9 hg9 _; have HO9 := Lib.hid ho9; have HF9 := Lib.hid (HF8.out.grown hg9 (fun k hk => own_typed (Kd.own_of_R HO8.out) k hk) hb9); clear c0 y0 c1 y1 c2 y2 c3 y3 c4 y4 c5 y5 c6 y6 c7 y7 c8 y8 c9 y9 k0 k1 k2 i0 i1 i2 fo fz; obtain ⟨c0, c1, c2, c3, c4, c5, c6, c7, c8, c9⟩ := HF9.out.so; obtain ⟨y0, y1, y2, y3, y4, y5, y6, y7, y8, y9⟩ := HF9.out.sz; obtain ⟨k0, k1, k2⟩ := HF9.out.sk; obtain ⟨i0, i1, i2⟩ := HF9.out.si; have fo := HF9.out.fo; have fz := HF9.out.fz; clear ho9 hb9 hg9)
    | ((with_reducible refine gate_dst (N := 280) rfl ?_); refine Kd.R_lit (Kd.int .i64) (w0 := w) w.heap.size 3 ?hg (N := 280) ?hd (xs := [rd s.vars ((j : Nat) : Int)]) (inner := [.int .i64 (rd s.vars ((j : Nat) : Int))]) (ok := fun _ => True) (okp := fun _ => True) ?hr ?hp (fun _ hk => hk) trivial HF9.out.b HF9.out.b.size (by simp) ?_; (case hd => rfl); (case hg => rfl); (case hr => first | (go_simp; done) | (go_simp; rfl)); (case hp => exact (Kd.reps_scalar (enc := Value.int .i64) [rd s.vars ((j : Nat) : Int)])); intro v10 w10 ho10 hb10 hg10 _; obtain ⟨A10, n10, e10, hl10, hr10⟩ := Kd.R_reads ho10; subst e10; have HC10 := Lib.hid hr10; have HO9b := Lib.hid (Kd.R_grown HO9.out hg10 (fun k _ => by simp)); have HF10 := Lib.hid (HF9.out.grown hg10 (by simp) hb10); clear c0 y0 c1 y1 c2 y2 c3 y3 c4 y4 c5 y5 c6 y6 c7 y7 c8 y8 c9 y9 k0 k1 k2 i0 i1 i2 fo fz; obtain ⟨c0, c1, c2, c3, c4, c5, c6, c7, c8, c9⟩ := HF10.out.so; obtain ⟨y0, y1, y2, y3, y4, y5, y6, y7, y8, y9⟩ := HF10.out.sz; obtain ⟨k0, k1, k2⟩ := HF10.out.sk; obtain ⟨i0, i1, i2⟩ := HF10.out.si; have fo := HF10.out.fo; have fz := HF10.out.fz; clear HO9; have HO9 := HO9b; clear HO9b; clear ho10 hb10 hg10 hr10)
    | ((with_reducible refine gate_builtin (b := .append) (xs := #[.tmp 278, .tmp 280]) rfl ?_); at_builtin; refine Kd.R_append_rows (Kd.int .i64) (w0 := w) w.heap.size rfl (.tmp 278) (.tmp 280) 25 3 (.int .i64 0) 8 rfl Tryd.underlying25 info3 rfl (by decide) (by omega) v9 ([] ++ xs) [rd s.vars ((j : Nat) : Int)] _ _ _ (fun _ => True) (fun _ => False) rfl rfl HO9.out HC10.out (fun _ _ h => h) (fun _ h => h.elim) (fun _ _ => trivial) HF10.out.b HF10.out.b.size ?aL ?_; (case aL => simp; omega); intro v11 w11 ho11 hb11 hg11 _; rw [List.nil_append] at ho11; have HO11 := Lib.hid ho11; have HF11 := Lib.hid (HF10.out.grown hg11 (fun k hk => own_typed (Kd.own_of_R HO9.out) k hk) hb11); clear c0 y0 c1 y1 c2 y2 c3 y3 c4 y4 c5 y5 c6 y6 c7 y7 c8 y8 c9 y9 k0 k1 k2 i0 i1 i2 fo fz; obtain ⟨c0, c1, c2, c3, c4, c5, c6, c7, c8, c9⟩ := HF11.out.so; obtain ⟨y0, y1, y2, y3, y4, y5, y6, y7, y8, y9⟩ := HF11.out.sz; obtain ⟨k0, k1, k2⟩ := HF11.out.sk; obtain ⟨i0, i1, i2⟩ := HF11.out.si; have fo := HF11.out.fo; have fz := HF11.out.fz; obtain ⟨A11, n11, e11, hl11, hr11⟩ := Kd.R_reads ho11; rw [len1] at e11; subst e11; clear ho11 hb11 hg11 hr11 hl11))
    have hrow := own_far (j := 2) (u := .slice A11 (xs.length + 1) n11) (Kd.own_of_R HO11.out) (own_ne HF11.out.o (by decide) (Kd.own_of_R HO11.out))
    rw [HRE.out]
    exact ok_end { s with pc := (n : Int) + 1, steps := s.steps + 1, stack := xs ++ [rd s.vars ((j : Nat) : Int)], done := false } (HF11.out.set 2 (.slice A11 (xs.length + 1) n11) (st' := #[.int .i64 ((n : Int) + 1), .slice (some av) s.vars.length vC, .slice A11 (xs.length + 1) n11, .slice pA s.pts.length pC, .slice nA s.notes.length nC, .int .i64 s.fin, .int .i64 (s.steps + 1), .int .i64 s.br, .bool false, .int .i64 0]) rfl) (.inl HV.out) (.inr hrow) (.inl HP.out) (.inl HN.out) _ rfl
  · have hl0 : decide (400 ≤ (xs.length : Int)) = true := decide_eq_true (by omega)
    have HRE := Lib.hid (HRR.out.symm.trans (if_neg hl))
    clear hl
    go_wp2_with fail
    rw [HRE.out]
    exact no_end { s with pc := (n : Int) + 1, steps := s.steps + 1, stack := xs } 2 (HF7.out.set 9 (.int .i64 2) (st' := #[.int .i64 ((n : Int) + 1), .slice (some av) s.vars.length vC, .slice sA xs.length sC, .slice pA s.pts.length pC, .slice nA s.notes.length nC, .int .i64 s.fin, .int .i64 (s.steps + 1), .int .i64 s.br, .bool false, .int .i64 2]) rfl) (by decide) (.inl HV.out) (.inl HSR.out) (.inl HP.out) (.inl HN.out) _ rfl
set_option maxRecDepth 100000 in
set_option maxHeartbeats 4000000 in
theorem rstep_ok3 {w : World} (cA : Option Addr) (cC : Nat) (ins : List S42) (V P : Int) (s : St) (vA sA pA nA : Option Addr) (vC sC pC nC : Nat) (gA : Option Addr) (gC : Nat) (gl : List Int) (xs : List Int) (x : Int) (hr0 : Kd.C k42 w cA ins.length ins) (hv : RD w (.slice vA s.vars.length vC) s.vars) (hs : RD w (.slice sA (xs.length + 1) sC) (xs ++ [x])) (hp : RD w (.slice pA s.pts.length pC) s.pts) (hn : RD w (.slice nA s.notes.length nC) s.notes) (h3 : s.steps < 3000) (h30 : 0 ≤ s.steps) (h400 : xs.length ≤ 400) (n : Nat) (hnL : n < ins.length) (hnB : n ≤ 9000000000000000000) (j : Nat) (hj : j < s.vars.length) (b : Int) (hop : insF ins n = (3, ((j : Nat) : Int), b)) (hvl : s.vars.length ≤ 400) :
    Calls Tryd.prog 19 #[.agg #[.slice cA ins.length cC, .int .i64 V, .int .i64 P], .agg (stC (n : Nat) (.slice vA s.vars.length vC) (.slice sA (xs.length + 1) sC) (.slice pA s.pts.length pC) (.slice nA s.notes.length nC) s.fin s.steps s.br false 0), .slice gA gl.length gC] w (RLeft w (.ok { s with pc := (n : Int) + 1, steps := s.steps + 1, stack := xs, vars := s.vars.set j x, done := false })) := by
  have HOP := Lib.hid hop
  clear hop
  have hcap := (RD.C hs).2.1
  have hd : decide (3000 ≤ s.steps) = false := decide_eq_false (by omega)
  have hd1 : decide ((n : Int) < 0) = false := decide_eq_false (by omega)
  have hd2 : decide (ins.length ≤ n) = false := decide_eq_false (by omega)
  have hja : decide (((j : Nat) : Int) < 0) = false := decide_eq_false (by omega)
  have hjb : decide (s.vars.length ≤ j) = false := decide_eq_false (by omega)
  have HV := Lib.hid hv
  have HS := Lib.hid hs
  have HP := Lib.hid hp
  have HN := Lib.hid hn
  have HR0 := Lib.hid hr0
  have HPRE := Lib.hid (pre_world w (.cells #[.slice cA ins.length cC, .int .i64 V, .int .i64 P] 24) (.cells #[.int .i64 (n : Nat), .slice vA s.vars.length vC, .slice sA (xs.length + 1) sC, .slice pA s.pts.length pC, .slice nA s.notes.length nC, .int .i64 s.fin, .int .i64 s.steps, .int .i64 s.br, .bool false, .int .i64 0] 55) (.cells #[.int .i64 0, .slice none 0 0, .slice none 0 0, .slice none 0 0, .slice none 0 0, .int .i64 0, .int .i64 0, .int .i64 0, .bool false, .int .i64 0] 55))
  clear hv hs hp hn hr0
  go_enter Tryd.func19, Tryd.ntmps19
  go_upto_region 1 with fail
  obtain ⟨ho, hz, hc, hs3, hB⟩ := HPRE.out
  generalize hw3 : ((w.alloc (.cells #[.slice cA ins.length cC, .int .i64 V, .int .i64 P] 24)).alloc (.cells #[.int .i64 (n : Nat), .slice vA s.vars.length vC, .slice sA (xs.length + 1) sC, .slice pA s.pts.length pC, .slice nA s.notes.length nC, .int .i64 s.fin, .int .i64 s.steps, .int .i64 s.br, .bool false, .int .i64 0] 55)).alloc (.cells #[.int .i64 0, .slice none 0 0, .slice none 0 0, .slice none 0 0, .slice none 0 0, .int .i64 0, .int .i64 0, .int .i64 0, .bool false, .int .i64 0] 55) = w3 at ho hz hc hs3 hB ⊢
  clear hw3 HPRE
  have c0 : w3.cell? ⟨w.heap.size + 1, 0, none⟩ = some (.int .i64 (n : Nat)) := (blk_cell ho 0).trans rfl
  have c1 : w3.cell? ⟨w.heap.size + 1, 1, none⟩ = some (.slice vA s.vars.length vC) := (blk_cell ho 1).trans rfl
  have c2 : w3.cell? ⟨w.heap.size + 1, 2, none⟩ = some (.slice sA (xs.length + 1) sC) := (blk_cell ho 2).trans rfl
  have c3 : w3.cell? ⟨w.heap.size + 1, 3, none⟩ = some (.slice pA s.pts.length pC) := (blk_cell ho 3).trans rfl
  have c4 : w3.cell? ⟨w.heap.size + 1, 4, none⟩ = some (.slice nA s.notes.length nC) := (blk_cell ho 4).trans rfl
  have c5 : w3.cell? ⟨w.heap.size + 1, 5, none⟩ = some (.int .i64 s.fin) := (blk_cell ho 5).trans rfl
  have c6 : w3.cell? ⟨w.heap.size + 1, 6, none⟩ = some (.int .i64 s.steps) := (blk_cell ho 6).trans rfl
  have c7 : w3.cell? ⟨w.heap.size + 1, 7, none⟩ = some (.int .i64 s.br) := (blk_cell ho 7).trans rfl
  have c8 : w3.cell? ⟨w.heap.size + 1, 8, none⟩ = some (.bool false) := (blk_cell ho 8).trans rfl
  have c9 : w3.cell? ⟨w.heap.size + 1, 9, none⟩ = some (.int .i64 0) := (blk_cell ho 9).trans rfl
  have y0 : w3.cell? ⟨w.heap.size + 1 + 1, 0, none⟩ = some (.int .i64 0) := (blk_cell hz 0).trans rfl
  have y1 : w3.cell? ⟨w.heap.size + 1 + 1, 1, none⟩ = some (.slice none 0 0) := (blk_cell hz 1).trans rfl
  have y2 : w3.cell? ⟨w.heap.size + 1 + 1, 2, none⟩ = some (.slice none 0 0) := (blk_cell hz 2).trans rfl
  have y3 : w3.cell? ⟨w.heap.size + 1 + 1, 3, none⟩ = some (.slice none 0 0) := (blk_cell hz 3).trans rfl
  have y4 : w3.cell? ⟨w.heap.size + 1 + 1, 4, none⟩ = some (.slice none 0 0) := (blk_cell hz 4).trans rfl
  have y5 : w3.cell? ⟨w.heap.size + 1 + 1, 5, none⟩ = some (.int .i64 0) := (blk_cell hz 5).trans rfl
  have y6 : w3.cell? ⟨w.heap.size + 1 + 1, 6, none⟩ = some (.int .i64 0) := (blk_cell hz 6).trans rfl
  have y7 : w3.cell? ⟨w.heap.size + 1 + 1, 7, none⟩ = some (.int .i64 0) := (blk_cell hz 7).trans rfl
  have y8 : w3.cell? ⟨w.heap.size + 1 + 1, 8, none⟩ = some (.bool false) := (blk_cell hz 8).trans rfl
  have y9 : w3.cell? ⟨w.heap.size + 1 + 1, 9, none⟩ = some (.int .i64 0) := (blk_cell hz 9).trans rfl
  have k0 : w3.cell? ⟨w.heap.size, 0, none⟩ = some (.slice cA ins.length cC) := (blk_cell hc 0).trans rfl
  have k1 : w3.cell? ⟨w.heap.size, 1, none⟩ = some (.int .i64 V) := (blk_cell hc 1).trans rfl
  have k2 : w3.cell? ⟨w.heap.size, 2, none⟩ = some (.int .i64 P) := (blk_cell hc 2).trans rfl
  have fo := blk_frozen ho
  have fz := blk_frozen hz
  have HO := Lib.hid ho
  have HZ := Lib.hid hz
  have HCD := Lib.hid hc
  have HB := Lib.hid hB
  have HSZ := Lib.hid (show w.heap.size + 3 ≤ w3.heap.size by omega)
  clear ho hz hc hB hs3
  obtain ⟨ad, hcA, hi0, hi1, hi2⟩ := at_T42 (Kd.C_below HR0.out HB.out) (n : Int) (by omega) (by omega)
  rw [Int.toNat_natCast] at hi0 hi1 hi2
  subst hcA
  have ei0 : w3.cell? (ad.add (n * 3)) = some (.int .i64 3) := hi0.trans (by rw [show (rd_T42 ins n).f0 = 3 from congrArg (·.1) HOP.out])
  have ei1 : w3.cell? ⟨(ad.add (n * 3)).block, (ad.add (n * 3)).off + 1, none⟩ = some (.int .i64 (j : Nat)) := hi1.trans (by rw [show (rd_T42 ins n).f1 = (j : Nat) from congrArg (·.2.1) HOP.out])
  have ei2 : w3.cell? ⟨(ad.add (n * 3)).block, (ad.add (n * 3)).off + 2, none⟩ = some (.int .i64 b) := hi2.trans (by rw [show (rd_T42 ins n).f2 = b from congrArg (·.2.2) HOP.out])
  clear hi0 hi1 hi2
  go_wp2_with fail
  refine (pops_3 _).mono ?_
  rintro e w' ⟨rfl, rfl⟩
  have hgl : w.heap.size + 3 ≤ w3.heap.size := HSZ.out
  have hF4 : Fr w (w3.alloc (.cells #[.int .i64 3, .int .i64 (j : Nat), .int .i64 b] 42)) w3.heap.size #[.slice (some ad) ins.length cC, .int .i64 V, .int .i64 P] #[.int .i64 (n : Nat), .slice vA s.vars.length vC, .slice sA (xs.length + 1) sC, .slice pA s.pts.length pC, .slice nA s.notes.length nC, .int .i64 s.fin, .int .i64 s.steps, .int .i64 s.br, .bool false, .int .i64 0] #[.int .i64 3, .int .i64 (j : Nat), .int .i64 b] :=
    ⟨(Below.heap_alloc w3 _ _ (blk_lt HO.out)).trans HO.out, (Below.heap_alloc w3 _ _ (blk_lt HZ.out)).trans HZ.out, (Below.heap_alloc w3 _ _ (blk_lt HCD.out)).trans HCD.out, heap_alloc_new w3 _, HB.out.alloc HB.out.size _, by omega, by omega, hgl⟩
  have HF4 := Lib.hid hF4
  clear c0 y0 c1 y1 c2 y2 c3 y3 c4 y4 c5 y5 c6 y6 c7 y7 c8 y8 c9 y9 k0 k1 k2 fo fz ei0 ei1 ei2 hF4 hgl HSZ HO HZ HCD HB
  generalize w3.heap.size = gi at HF4 ⊢
  generalize w3.alloc (.cells #[.int .i64 3, .int .i64 (j : Nat), .int .i64 b] 42) = w4 at HF4 ⊢
  obtain ⟨c0, c1, c2, c3, c4, c5, c6, c7, c8, c9⟩ := HF4.out.so
  obtain ⟨y0, y1, y2, y3, y4, y5, y6, y7, y8, y9⟩ := HF4.out.sz
  obtain ⟨k0, k1, k2⟩ := HF4.out.sk
  obtain ⟨i0, i1, i2⟩ := HF4.out.si
  have fo := HF4.out.fo
  have fz := HF4.out.fz
  obtain ⟨hln, hlc, hCs⟩ := RD.C (HS.out.below HF4.out.b)
  obtain ⟨adS, hsA, hx1⟩ := Kd.at_int hCs (xs.length : Int) (by omega) (by omega)
  subst hsA
  rw [Int.toNat_natCast] at hx1
  have kx : w4.cell? (adS.add xs.length) = some (.int .i64 x) := hx1.trans (by rw [rd_last1])
  clear hx1 hln hCs
  go_upto_region 27 with fail
  have HF7 := Lib.hid (((HF4.out.set 2 (.slice (some adS) xs.length sC) (st' := #[.int .i64 (n : Nat), .slice vA s.vars.length vC, .slice (some adS) xs.length sC, .slice pA s.pts.length pC, .slice nA s.notes.length nC, .int .i64 s.fin, .int .i64 s.steps, .int .i64 s.br, .bool false, .int .i64 0]) rfl).set 0 (.int .i64 ((n : Int) + 1)) (st' := #[.int .i64 ((n : Int) + 1), .slice vA s.vars.length vC, .slice (some adS) xs.length sC, .slice pA s.pts.length pC, .slice nA s.notes.length nC, .int .i64 s.fin, .int .i64 s.steps, .int .i64 s.br, .bool false, .int .i64 0]) rfl).set 6 (.int .i64 (s.steps + 1)) (st' := #[.int .i64 ((n : Int) + 1), .slice vA s.vars.length vC, .slice (some adS) xs.length sC, .slice pA s.pts.length pC, .slice nA s.notes.length nC, .int .i64 s.fin, .int .i64 (s.steps + 1), .int .i64 s.br, .bool false, .int .i64 0]) rfl)
  clear c0 y0 c1 y1 c2 y2 c3 y3 c4 y4 c5 y5 c6 y6 c7 y7 c8 y8 c9 y9 k0 k1 k2 i0 i1 i2 fo fz kx
  generalize ((w4.setCell ⟨w.heap.size + 1, 2, none⟩ (.slice (some adS) xs.length sC)).setCell ⟨w.heap.size + 1, 0, none⟩ (.int .i64 ((n : Int) + 1))).setCell ⟨w.heap.size + 1, 6, none⟩ (.int .i64 (s.steps + 1)) = w7 at HF7 ⊢
  have HSR := Lib.hid (show RD w (.slice (some adS) xs.length sC) xs from by have h := HS.out.take xs.length (by omega); rwa [List.take_left' rfl] at h)
  obtain ⟨c0, c1, c2, c3, c4, c5, c6, c7, c8, c9⟩ := HF7.out.so
  obtain ⟨y0, y1, y2, y3, y4, y5, y6, y7, y8, y9⟩ := HF7.out.sz
  obtain ⟨k0, k1, k2⟩ := HF7.out.sk
  obtain ⟨i0, i1, i2⟩ := HF7.out.si
  have fo := HF7.out.fo
  have fz := HF7.out.fz
  clear HF4
  obtain ⟨_, _, hCv⟩ := RD.C (HV.out.below HF7.out.b)
  obtain ⟨av, hvA, hxv⟩ := Kd.at_int hCv ((j : Nat) : Int) (by omega) (by omega)
  subst hvA
  rw [Int.toNat_natCast] at hxv
  clear hCv
  go_wp2_with (go_at_call 25; refine (bootchainref17_with.calls (some av) vC s.vars ((j : Nat) : Int) (x) (s.vars.set j (x)) _ (RD.C (HV.out.below HF7.out.b)).2.2 (RD.C HV.out).2.1 (with_f s.vars j _ hj hvl)).mono ?_; rintro e w8 ⟨v8, rfl, ho8, hb8⟩; have HO8 := Lib.hid (Kd.R_lower ho8 HF7.out.b.size); obtain ⟨A8, n8, e8, _, _⟩ := Kd.R_reads ho8; rw [List.length_set] at e8; subst e8; have HF8 := Lib.hid (HF7.out.below hb8); clear c0 y0 c1 y1 c2 y2 c3 y3 c4 y4 c5 y5 c6 y6 c7 y7 c8 y8 c9 y9 k0 k1 k2 i0 i1 i2 fo fz; obtain ⟨c0, c1, c2, c3, c4, c5, c6, c7, c8, c9⟩ := HF8.out.so; obtain ⟨y0, y1, y2, y3, y4, y5, y6, y7, y8, y9⟩ := HF8.out.sz; obtain ⟨k0, k1, k2⟩ := HF8.out.sk; obtain ⟨i0, i1, i2⟩ := HF8.out.si; have fo := HF8.out.fo; have fz := HF8.out.fz; clear ho8 hb8)
  have hrow := own_far (j := 1) (u := .slice A8 s.vars.length n8) (Kd.own_of_R HO8.out) (own_ne HF8.out.o (by decide) (Kd.own_of_R HO8.out))
  exact ok_end { s with pc := (n : Int) + 1, steps := s.steps + 1, stack := xs, vars := s.vars.set j (x), done := false } (HF8.out.set 1 (.slice A8 s.vars.length n8) (st' := #[.int .i64 ((n : Int) + 1), .slice A8 s.vars.length n8, .slice (some adS) xs.length sC, .slice pA s.pts.length pC, .slice nA s.notes.length nC, .int .i64 s.fin, .int .i64 (s.steps + 1), .int .i64 s.br, .bool false, .int .i64 0]) rfl) (.inr hrow) (.inl HSR.out) (.inl HP.out) (.inl HN.out) _ rfl
end Go.Proofs.YtbgfkepnlpgagaaDoor.P
