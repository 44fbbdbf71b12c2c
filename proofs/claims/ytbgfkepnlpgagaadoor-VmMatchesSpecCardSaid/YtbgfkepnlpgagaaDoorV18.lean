/- The reference's step: good ways. -/
import Derived.Test.YtbgfkepnlpgagaaDoorV17
namespace Go.Proofs.YtbgfkepnlpgagaaDoor.P
open Go.RowKit Go.Proofs.YtbgfkepnlpgagaaDoorW.PrintWords Go.Proofs.YtbgfkepnlpgagaaDoorW.PrintLast Go.Proofs.YtbgfkepnlpgagaaDoorW.PrintMore
attribute [local go_sem] max2_int min2_int max_two min_two max_three min_three max_four min_four
set_option linter.unusedVariables false
set_option linter.unusedSimpArgs false
theorem len1 (xs : List Int) (v : Int) : (xs ++ [v]).length = xs.length + 1 := by simp
theorem rd_last1 (xs : List Int) (x : Int) : rd (xs ++ [x]) (xs.length : Int) = x := by unfold rd; simp
theorem rd_last2y (xs : List Int) (y x : Int) : rd (xs ++ [y] ++ [x]) (xs.length : Int) = y := by unfold rd; simp
theorem rd_last2x (xs : List Int) (y x : Int) : rd (xs ++ [y] ++ [x]) ((xs.length + 1 : Nat) : Int) = x := by unfold rd; simp
theorem with_f (l : List Int) (j : Nat) (v : Int) (hj : j < l.length) (hl : l.length ≤ 400) : bootchainref17_with.f l ((j : Nat) : Int) v = some (l.set j v) := by
  unfold bootchainref17_with.f
  simp only [Option.bind_some, List.length_nil, List.nil_append, Int.toNat_natCast]
  rw [if_pos (by omega), if_pos (by omega), if_pos (by omega)]
theorem b2i_nonneg (b : Bool) : 0 ≤ b2i b := by cases b <;> decide
theorem binV_nonneg (op a b : Int) : 0 ≤ binV op a b := by
  unfold binV
  repeat' split
  all_goals first | exact b2i_nonneg _ | omega
set_option maxRecDepth 100000 in
set_option maxHeartbeats 4000000 in
theorem rstep_ok13 {w : World} (cA : Option Addr) (cC : Nat) (ins : List S42) (V P : Int) (s : St) (vA sA pA nA : Option Addr) (vC sC pC nC : Nat) (gA : Option Addr) (gC : Nat) (gl : List Int) (xs : List Int) (hr0 : Kd.C k42 w cA ins.length ins) (hv : RD w (.slice vA s.vars.length vC) s.vars) (hs : RD w (.slice sA xs.length sC) xs) (hp : RD w (.slice pA s.pts.length pC) s.pts) (hn : RD w (.slice nA s.notes.length nC) s.notes) (h3 : s.steps < 3000) (h30 : 0 ≤ s.steps) (h400 : xs.length ≤ 400) (n : Nat) (hnL : n < ins.length) (hnB : n ≤ 9000000000000000000) (a b : Int) (hop : insF ins n = (13, a, b)) :
    Calls Tryd.prog 19 #[.agg #[.slice cA ins.length cC, .int .i64 V, .int .i64 P], .agg (stC (n : Nat) (.slice vA s.vars.length vC) (.slice sA xs.length sC) (.slice pA s.pts.length pC) (.slice nA s.notes.length nC) s.fin s.steps s.br false 0), .slice gA gl.length gC] w (RLeft w (.ok { s with pc := a, steps := s.steps + 1, stack := xs, done := false })) := by
  have HOP := Lib.hid hop
  clear hop
  have hcap := (RD.C hs).2.1
  have hd : decide (3000 ≤ s.steps) = false := decide_eq_false (by omega)
  have hd1 : decide ((n : Int) < 0) = false := decide_eq_false (by omega)
  have hd2 : decide (ins.length ≤ n) = false := decide_eq_false (by omega)
  have HV := Lib.hid hv
  have HS := Lib.hid hs
  have HP := Lib.hid hp
  have HN := Lib.hid hn
  have HR0 := Lib.hid hr0
  have HPRE := Lib.hid (pre_world w (.cells #[.slice cA ins.length cC, .int .i64 V, .int .i64 P] 24) (.cells #[.int .i64 (n : Nat), .slice vA s.vars.length vC, .slice sA xs.length sC, .slice pA s.pts.length pC, .slice nA s.notes.length nC, .int .i64 s.fin, .int .i64 s.steps, .int .i64 s.br, .bool false, .int .i64 0] 55) (.cells #[.int .i64 0, .slice none 0 0, .slice none 0 0, .slice none 0 0, .slice none 0 0, .int .i64 0, .int .i64 0, .int .i64 0, .bool false, .int .i64 0] 55))
  clear hv hs hp hn hr0
  go_enter Tryd.func19, Tryd.ntmps19
  go_upto_region 1 with fail
  obtain ⟨ho, hz, hc, hs3, hB⟩ := HPRE.out
  generalize hw3 : ((w.alloc (.cells #[.slice cA ins.length cC, .int .i64 V, .int .i64 P] 24)).alloc (.cells #[.int .i64 (n : Nat), .slice vA s.vars.length vC, .slice sA xs.length sC, .slice pA s.pts.length pC, .slice nA s.notes.length nC, .int .i64 s.fin, .int .i64 s.steps, .int .i64 s.br, .bool false, .int .i64 0] 55)).alloc (.cells #[.int .i64 0, .slice none 0 0, .slice none 0 0, .slice none 0 0, .slice none 0 0, .int .i64 0, .int .i64 0, .int .i64 0, .bool false, .int .i64 0] 55) = w3 at ho hz hc hs3 hB ⊢
  clear hw3 HPRE
  have c0 : w3.cell? ⟨w.heap.size + 1, 0, none⟩ = some (.int .i64 (n : Nat)) := (blk_cell ho 0).trans rfl
  have c1 : w3.cell? ⟨w.heap.size + 1, 1, none⟩ = some (.slice vA s.vars.length vC) := (blk_cell ho 1).trans rfl
  have c2 : w3.cell? ⟨w.heap.size + 1, 2, none⟩ = some (.slice sA xs.length sC) := (blk_cell ho 2).trans rfl
  have c3 : w3.cell? ⟨w.heap.size + 1, 3, none⟩ = some (.slice pA s.pts.length pC) := (blk_cell ho 3).trans rfl
  have c4 : w3.cell? ⟨w.heap.size + 1, 4, none⟩ = some (.slice nA s.notes.length nC) := (blk_cell ho 4).trans rfl
  have c5 : w3.cell? ⟨w.heap.size + 1, 5, none⟩ = some (.int .i64 s.fin) := (blk_cell ho 5).trans rfl
  have c6 : w3.cell? ⟨w.heap.size + 1, 6, none⟩ = some (.int .i64 s.steps) := (blk_cell ho 6).trans rfl
  have c7 : w3.cell? ⟨w.heap.size + 1, 7, none⟩ = some (.int .i64 s.br) := (blk_cell ho 7).trans rfl
  have c8 : w3.cell? ⟨w.heap.size + 1, 8, none⟩ = some (.bool false) := (blk_cell ho 8).trans rfl
  have c9 : w3.cell? ⟨w.heap.size + 1, 9, none⟩ = some (.int .i64 0) := (blk_cell ho 9).trans rfl
  have y0 : w3.cell? ⟨w.heap.size + 1 + 1, 0, none⟩ = some (.int .i64 0) := (blk_cell hz 0).trans rfl
  have y1 : w3.cell? ⟨w.heap.size + 1 + 1, 1, none⟩ = some (.slice none 0 0) := (blk_cell hz 1).trans rfl
  have y2 : w3.cell? ⟨w.heap.size + 1 + 1, 2, none⟩ = some (.slice none 0 0) := (blk_cell hz 2).trans rfl
  have y3 : w3.cell? ⟨w.heap.size + 1 + 1, 3, none⟩ = some (.slice none 0 0) := (blk_cell hz 3).trans rfl
  have y4 : w3.cell? ⟨w.heap.size + 1 + 1, 4, none⟩ = some (.slice none 0 0) := (blk_cell hz 4).trans rfl
  have y5 : w3.cell? ⟨w.heap.size + 1 + 1, 5, none⟩ = some (.int .i64 0) := (blk_cell hz 5).trans rfl
  have y6 : w3.cell? ⟨w.heap.size + 1 + 1, 6, none⟩ = some (.int .i64 0) := (blk_cell hz 6).trans rfl
  have y7 : w3.cell? ⟨w.heap.size + 1 + 1, 7, none⟩ = some (.int .i64 0) := (blk_cell hz 7).trans rfl
  have y8 : w3.cell? ⟨w.heap.size + 1 + 1, 8, none⟩ = some (.bool false) := (blk_cell hz 8).trans rfl
  have y9 : w3.cell? ⟨w.heap.size + 1 + 1, 9, none⟩ = some (.int .i64 0) := (blk_cell hz 9).trans rfl
  have k0 : w3.cell? ⟨w.heap.size, 0, none⟩ = some (.slice cA ins.length cC) := (blk_cell hc 0).trans rfl
  have k1 : w3.cell? ⟨w.heap.size, 1, none⟩ = some (.int .i64 V) := (blk_cell hc 1).trans rfl
  have k2 : w3.cell? ⟨w.heap.size, 2, none⟩ = some (.int .i64 P) := (blk_cell hc 2).trans rfl
  have fo := blk_frozen ho
  have fz := blk_frozen hz
  have HO := Lib.hid ho
  have HZ := Lib.hid hz
  have HCD := Lib.hid hc
  have HB := Lib.hid hB
  have HSZ := Lib.hid (show w.heap.size + 3 ≤ w3.heap.size by omega)
  clear ho hz hc hB hs3
  obtain ⟨ad, hcA, hi0, hi1, hi2⟩ := at_T42 (Kd.C_below HR0.out HB.out) (n : Int) (by omega) (by omega)
  rw [Int.toNat_natCast] at hi0 hi1 hi2
  subst hcA
  have ei0 : w3.cell? (ad.add (n * 3)) = some (.int .i64 13) := hi0.trans (by rw [show (rd_T42 ins n).f0 = 13 from congrArg (·.1) HOP.out])
  have ei1 : w3.cell? ⟨(ad.add (n * 3)).block, (ad.add (n * 3)).off + 1, none⟩ = some (.int .i64 a) := hi1.trans (by rw [show (rd_T42 ins n).f1 = a from congrArg (·.2.1) HOP.out])
  have ei2 : w3.cell? ⟨(ad.add (n * 3)).block, (ad.add (n * 3)).off + 2, none⟩ = some (.int .i64 b) := hi2.trans (by rw [show (rd_T42 ins n).f2 = b from congrArg (·.2.2) HOP.out])
  clear hi0 hi1 hi2
  go_wp2_with fail
  refine (pops_13 _).mono ?_
  rintro e w' ⟨rfl, rfl⟩
  have hgl : w.heap.size + 3 ≤ w3.heap.size := HSZ.out
  have hF4 : Fr w (w3.alloc (.cells #[.int .i64 13, .int .i64 a, .int .i64 b] 42)) w3.heap.size #[.slice (some ad) ins.length cC, .int .i64 V, .int .i64 P] #[.int .i64 (n : Nat), .slice vA s.vars.length vC, .slice sA xs.length sC, .slice pA s.pts.length pC, .slice nA s.notes.length nC, .int .i64 s.fin, .int .i64 s.steps, .int .i64 s.br, .bool false, .int .i64 0] #[.int .i64 13, .int .i64 a, .int .i64 b] :=
    ⟨(Below.heap_alloc w3 _ _ (blk_lt HO.out)).trans HO.out, (Below.heap_alloc w3 _ _ (blk_lt HZ.out)).trans HZ.out, (Below.heap_alloc w3 _ _ (blk_lt HCD.out)).trans HCD.out, heap_alloc_new w3 _, HB.out.alloc HB.out.size _, by omega, by omega, hgl⟩
  have HF4 := Lib.hid hF4
  clear c0 y0 c1 y1 c2 y2 c3 y3 c4 y4 c5 y5 c6 y6 c7 y7 c8 y8 c9 y9 k0 k1 k2 fo fz ei0 ei1 ei2 hF4 hgl HSZ HO HZ HCD HB
  generalize w3.heap.size = gi at HF4 ⊢
  generalize w3.alloc (.cells #[.int .i64 13, .int .i64 a, .int .i64 b] 42) = w4 at HF4 ⊢
  obtain ⟨c0, c1, c2, c3, c4, c5, c6, c7, c8, c9⟩ := HF4.out.so
  obtain ⟨y0, y1, y2, y3, y4, y5, y6, y7, y8, y9⟩ := HF4.out.sz
  obtain ⟨k0, k1, k2⟩ := HF4.out.sk
  obtain ⟨i0, i1, i2⟩ := HF4.out.si
  have fo := HF4.out.fo
  have fz := HF4.out.fz
  go_upto_region 27 with fail
  have HF7 := Lib.hid (((HF4.out.set 2 (.slice sA xs.length sC) (st' := #[.int .i64 (n : Nat), .slice vA s.vars.length vC, .slice sA xs.length sC, .slice pA s.pts.length pC, .slice nA s.notes.length nC, .int .i64 s.fin, .int .i64 s.steps, .int .i64 s.br, .bool false, .int .i64 0]) rfl).set 0 (.int .i64 ((n : Int) + 1)) (st' := #[.int .i64 ((n : Int) + 1), .slice vA s.vars.length vC, .slice sA xs.length sC, .slice pA s.pts.length pC, .slice nA s.notes.length nC, .int .i64 s.fin, .int .i64 s.steps, .int .i64 s.br, .bool false, .int .i64 0]) rfl).set 6 (.int .i64 (s.steps + 1)) (st' := #[.int .i64 ((n : Int) + 1), .slice vA s.vars.length vC, .slice sA xs.length sC, .slice pA s.pts.length pC, .slice nA s.notes.length nC, .int .i64 s.fin, .int .i64 (s.steps + 1), .int .i64 s.br, .bool false, .int .i64 0]) rfl)
  clear c0 y0 c1 y1 c2 y2 c3 y3 c4 y4 c5 y5 c6 y6 c7 y7 c8 y8 c9 y9 k0 k1 k2 i0 i1 i2 fo fz
  generalize ((w4.setCell ⟨w.heap.size + 1, 2, none⟩ (.slice sA xs.length sC)).setCell ⟨w.heap.size + 1, 0, none⟩ (.int .i64 ((n : Int) + 1))).setCell ⟨w.heap.size + 1, 6, none⟩ (.int .i64 (s.steps + 1)) = w7 at HF7 ⊢
  have HSR := Lib.hid (show RD w (.slice sA xs.length sC) xs from HS.out)
  obtain ⟨c0, c1, c2, c3, c4, c5, c6, c7, c8, c9⟩ := HF7.out.so
  obtain ⟨y0, y1, y2, y3, y4, y5, y6, y7, y8, y9⟩ := HF7.out.sz
  obtain ⟨k0, k1, k2⟩ := HF7.out.sk
  obtain ⟨i0, i1, i2⟩ := HF7.out.si
  have fo := HF7.out.fo
  have fz := HF7.out.fz
  clear HF4
  go_wp2_with fail
  exact ok_end { s with pc := a, steps := s.steps + 1, stack := xs, done := false } (HF7.out.set 0 (.int .i64 a) (st' := #[.int .i64 a, .slice vA s.vars.length vC, .slice sA xs.length sC, .slice pA s.pts.length pC, .slice nA s.notes.length nC, .int .i64 s.fin, .int .i64 (s.steps + 1), .int .i64 s.br, .bool false, .int .i64 0]) rfl) (.inl HV.out) (.inl HSR.out) (.inl HP.out) (.inl HN.out) _ rfl
set_option maxRecDepth 100000 in
set_option maxHeartbeats 4000000 in
theorem rstep_ok15 {w : World} (cA : Option Addr) (cC : Nat) (ins : List S42) (V P : Int) (s : St) (vA sA pA nA : Option Addr) (vC sC pC nC : Nat) (gA : Option Addr) (gC : Nat) (gl : List Int) (xs : List Int) (hr0 : Kd.C k42 w cA ins.length ins) (hv : RD w (.slice vA s.vars.length vC) s.vars) (hs : RD w (.slice sA xs.length sC) xs) (hp : RD w (.slice pA s.pts.length pC) s.pts) (hn : RD w (.slice nA s.notes.length nC) s.notes) (h3 : s.steps < 3000) (h30 : 0 ≤ s.steps) (h400 : xs.length ≤ 400) (n : Nat) (hnL : n < ins.length) (hnB : n ≤ 9000000000000000000) (a b : Int) (hop : insF ins n = (15, a, b)) :
    Calls Tryd.prog 19 #[.agg #[.slice cA ins.length cC, .int .i64 V, .int .i64 P], .agg (stC (n : Nat) (.slice vA s.vars.length vC) (.slice sA xs.length sC) (.slice pA s.pts.length pC) (.slice nA s.notes.length nC) s.fin s.steps s.br false 0), .slice gA gl.length gC] w (RLeft w (.ok { s with pc := (n : Int) + 1, steps := s.steps + 1, stack := xs, fin := a, done := true })) := by
  have HOP := Lib.hid hop
  clear hop
  have hcap := (RD.C hs).2.1
  have hd : decide (3000 ≤ s.steps) = false := decide_eq_false (by omega)
  have hd1 : decide ((n : Int) < 0) = false := decide_eq_false (by omega)
  have hd2 : decide (ins.length ≤ n) = false := decide_eq_false (by omega)
  have HV := Lib.hid hv
  have HS := Lib.hid hs
  have HP := Lib.hid hp
  have HN := Lib.hid hn
  have HR0 := Lib.hid hr0
  have HPRE := Lib.hid (pre_world w (.cells #[.slice cA ins.length cC, .int .i64 V, .int .i64 P] 24) (.cells #[.int .i64 (n : Nat), .slice vA s.vars.length vC, .slice sA xs.length sC, .slice pA s.pts.length pC, .slice nA s.notes.length nC, .int .i64 s.fin, .int .i64 s.steps, .int .i64 s.br, .bool false, .int .i64 0] 55) (.cells #[.int .i64 0, .slice none 0 0, .slice none 0 0, .slice none 0 0, .slice none 0 0, .int .i64 0, .int .i64 0, .int .i64 0, .bool false, .int .i64 0] 55))
  clear hv hs hp hn hr0
  go_enter Tryd.func19, Tryd.ntmps19
  go_upto_region 1 with fail
  obtain ⟨ho, hz, hc, hs3, hB⟩ := HPRE.out
  generalize hw3 : ((w.alloc (.cells #[.slice cA ins.length cC, .int .i64 V, .int .i64 P] 24)).alloc (.cells #[.int .i64 (n : Nat), .slice vA s.vars.length vC, .slice sA xs.length sC, .slice pA s.pts.length pC, .slice nA s.notes.length nC, .int .i64 s.fin, .int .i64 s.steps, .int .i64 s.br, .bool false, .int .i64 0] 55)).alloc (.cells #[.int .i64 0, .slice none 0 0, .slice none 0 0, .slice none 0 0, .slice none 0 0, .int .i64 0, .int .i64 0, .int .i64 0, .bool false, .int .i64 0] 55) = w3 at ho hz hc hs3 hB ⊢
  clear hw3 HPRE
  have c0 : w3.cell? ⟨w.heap.size + 1, 0, none⟩ = some (.int .i64 (n : Nat)) := (blk_cell ho 0).trans rfl
  have c1 : w3.cell? ⟨w.heap.size + 1, 1, none⟩ = some (.slice vA s.vars.length vC) := (blk_cell ho 1).trans rfl
  have c2 : w3.cell? ⟨w.heap.size + 1, 2, none⟩ = some (.slice sA xs.length sC) := (blk_cell ho 2).trans rfl
  have c3 : w3.cell? ⟨w.heap.size + 1, 3, none⟩ = some (.slice pA s.pts.length pC) := (blk_cell ho 3).trans rfl
  have c4 : w3.cell? ⟨w.heap.size + 1, 4, none⟩ = some (.slice nA s.notes.length nC) := (blk_cell ho 4).trans rfl
  have c5 : w3.cell? ⟨w.heap.size + 1, 5, none⟩ = some (.int .i64 s.fin) := (blk_cell ho 5).trans rfl
  have c6 : w3.cell? ⟨w.heap.size + 1, 6, none⟩ = some (.int .i64 s.steps) := (blk_cell ho 6).trans rfl
  have c7 : w3.cell? ⟨w.heap.size + 1, 7, none⟩ = some (.int .i64 s.br) := (blk_cell ho 7).trans rfl
  have c8 : w3.cell? ⟨w.heap.size + 1, 8, none⟩ = some (.bool false) := (blk_cell ho 8).trans rfl
  have c9 : w3.cell? ⟨w.heap.size + 1, 9, none⟩ = some (.int .i64 0) := (blk_cell ho 9).trans rfl
  have y0 : w3.cell? ⟨w.heap.size + 1 + 1, 0, none⟩ = some (.int .i64 0) := (blk_cell hz 0).trans rfl
  have y1 : w3.cell? ⟨w.heap.size + 1 + 1, 1, none⟩ = some (.slice none 0 0) := (blk_cell hz 1).trans rfl
  have y2 : w3.cell? ⟨w.heap.size + 1 + 1, 2, none⟩ = some (.slice none 0 0) := (blk_cell hz 2).trans rfl
  have y3 : w3.cell? ⟨w.heap.size + 1 + 1, 3, none⟩ = some (.slice none 0 0) := (blk_cell hz 3).trans rfl
  have y4 : w3.cell? ⟨w.heap.size + 1 + 1, 4, none⟩ = some (.slice none 0 0) := (blk_cell hz 4).trans rfl
  have y5 : w3.cell? ⟨w.heap.size + 1 + 1, 5, none⟩ = some (.int .i64 0) := (blk_cell hz 5).trans rfl
  have y6 : w3.cell? ⟨w.heap.size + 1 + 1, 6, none⟩ = some (.int .i64 0) := (blk_cell hz 6).trans rfl
  have y7 : w3.cell? ⟨w.heap.size + 1 + 1, 7, none⟩ = some (.int .i64 0) := (blk_cell hz 7).trans rfl
  have y8 : w3.cell? ⟨w.heap.size + 1 + 1, 8, none⟩ = some (.bool false) := (blk_cell hz 8).trans rfl
  have y9 : w3.cell? ⟨w.heap.size + 1 + 1, 9, none⟩ = some (.int .i64 0) := (blk_cell hz 9).trans rfl
  have k0 : w3.cell? ⟨w.heap.size, 0, none⟩ = some (.slice cA ins.length cC) := (blk_cell hc 0).trans rfl
  have k1 : w3.cell? ⟨w.heap.size, 1, none⟩ = some (.int .i64 V) := (blk_cell hc 1).trans rfl
  have k2 : w3.cell? ⟨w.heap.size, 2, none⟩ = some (.int .i64 P) := (blk_cell hc 2).trans rfl
  have fo := blk_frozen ho
  have fz := blk_frozen hz
  have HO := Lib.hid ho
  have HZ := Lib.hid hz
  have HCD := Lib.hid hc
  have HB := Lib.hid hB
  have HSZ := Lib.hid (show w.heap.size + 3 ≤ w3.heap.size by omega)
  clear ho hz hc hB hs3
  obtain ⟨ad, hcA, hi0, hi1, hi2⟩ := at_T42 (Kd.C_below HR0.out HB.out) (n : Int) (by omega) (by omega)
  rw [Int.toNat_natCast] at hi0 hi1 hi2
  subst hcA
  have ei0 : w3.cell? (ad.add (n * 3)) = some (.int .i64 15) := hi0.trans (by rw [show (rd_T42 ins n).f0 = 15 from congrArg (·.1) HOP.out])
  have ei1 : w3.cell? ⟨(ad.add (n * 3)).block, (ad.add (n * 3)).off + 1, none⟩ = some (.int .i64 a) := hi1.trans (by rw [show (rd_T42 ins n).f1 = a from congrArg (·.2.1) HOP.out])
  have ei2 : w3.cell? ⟨(ad.add (n * 3)).block, (ad.add (n * 3)).off + 2, none⟩ = some (.int .i64 b) := hi2.trans (by rw [show (rd_T42 ins n).f2 = b from congrArg (·.2.2) HOP.out])
  clear hi0 hi1 hi2
  go_wp2_with fail
  refine (pops_15 _).mono ?_
  rintro e w' ⟨rfl, rfl⟩
  have hgl : w.heap.size + 3 ≤ w3.heap.size := HSZ.out
  have hF4 : Fr w (w3.alloc (.cells #[.int .i64 15, .int .i64 a, .int .i64 b] 42)) w3.heap.size #[.slice (some ad) ins.length cC, .int .i64 V, .int .i64 P] #[.int .i64 (n : Nat), .slice vA s.vars.length vC, .slice sA xs.length sC, .slice pA s.pts.length pC, .slice nA s.notes.length nC, .int .i64 s.fin, .int .i64 s.steps, .int .i64 s.br, .bool false, .int .i64 0] #[.int .i64 15, .int .i64 a, .int .i64 b] :=
    ⟨(Below.heap_alloc w3 _ _ (blk_lt HO.out)).trans HO.out, (Below.heap_alloc w3 _ _ (blk_lt HZ.out)).trans HZ.out, (Below.heap_alloc w3 _ _ (blk_lt HCD.out)).trans HCD.out, heap_alloc_new w3 _, HB.out.alloc HB.out.size _, by omega, by omega, hgl⟩
  have HF4 := Lib.hid hF4
  clear c0 y0 c1 y1 c2 y2 c3 y3 c4 y4 c5 y5 c6 y6 c7 y7 c8 y8 c9 y9 k0 k1 k2 fo fz ei0 ei1 ei2 hF4 hgl HSZ HO HZ HCD HB
  generalize w3.heap.size = gi at HF4 ⊢
  generalize w3.alloc (.cells #[.int .i64 15, .int .i64 a, .int .i64 b] 42) = w4 at HF4 ⊢
  obtain ⟨c0, c1, c2, c3, c4, c5, c6, c7, c8, c9⟩ := HF4.out.so
  obtain ⟨y0, y1, y2, y3, y4, y5, y6, y7, y8, y9⟩ := HF4.out.sz
  obtain ⟨k0, k1, k2⟩ := HF4.out.sk
  obtain ⟨i0, i1, i2⟩ := HF4.out.si
  have fo := HF4.out.fo
  have fz := HF4.out.fz
  go_upto_region 27 with fail
  have HF7 := Lib.hid (((HF4.out.set 2 (.slice sA xs.length sC) (st' := #[.int .i64 (n : Nat), .slice vA s.vars.length vC, .slice sA xs.length sC, .slice pA s.pts.length pC, .slice nA s.notes.length nC, .int .i64 s.fin, .int .i64 s.steps, .int .i64 s.br, .bool false, .int .i64 0]) rfl).set 0 (.int .i64 ((n : Int) + 1)) (st' := #[.int .i64 ((n : Int) + 1), .slice vA s.vars.length vC, .slice sA xs.length sC, .slice pA s.pts.length pC, .slice nA s.notes.length nC, .int .i64 s.fin, .int .i64 s.steps, .int .i64 s.br, .bool false, .int .i64 0]) rfl).set 6 (.int .i64 (s.steps + 1)) (st' := #[.int .i64 ((n : Int) + 1), .slice vA s.vars.length vC, .slice sA xs.length sC, .slice pA s.pts.length pC, .slice nA s.notes.length nC, .int .i64 s.fin, .int .i64 (s.steps + 1), .int .i64 s.br, .bool false, .int .i64 0]) rfl)
  clear c0 y0 c1 y1 c2 y2 c3 y3 c4 y4 c5 y5 c6 y6 c7 y7 c8 y8 c9 y9 k0 k1 k2 i0 i1 i2 fo fz
  generalize ((w4.setCell ⟨w.heap.size + 1, 2, none⟩ (.slice sA xs.length sC)).setCell ⟨w.heap.size + 1, 0, none⟩ (.int .i64 ((n : Int) + 1))).setCell ⟨w.heap.size + 1, 6, none⟩ (.int .i64 (s.steps + 1)) = w7 at HF7 ⊢
  have HSR := Lib.hid (show RD w (.slice sA xs.length sC) xs from HS.out)
  obtain ⟨c0, c1, c2, c3, c4, c5, c6, c7, c8, c9⟩ := HF7.out.so
  obtain ⟨y0, y1, y2, y3, y4, y5, y6, y7, y8, y9⟩ := HF7.out.sz
  obtain ⟨k0, k1, k2⟩ := HF7.out.sk
  obtain ⟨i0, i1, i2⟩ := HF7.out.si
  have fo := HF7.out.fo
  have fz := HF7.out.fz
  clear HF4
  go_wp2_with fail
  exact ok_end { s with pc := (n : Int) + 1, steps := s.steps + 1, stack := xs, fin := a, done := true } ((HF7.out.set 5 (.int .i64 a) (st' := #[.int .i64 ((n : Int) + 1), .slice vA s.vars.length vC, .slice sA xs.length sC, .slice pA s.pts.length pC, .slice nA s.notes.length nC, .int .i64 a, .int .i64 (s.steps + 1), .int .i64 s.br, .bool false, .int .i64 0]) rfl).set 8 (.bool true) (st' := #[.int .i64 ((n : Int) + 1), .slice vA s.vars.length vC, .slice sA xs.length sC, .slice pA s.pts.length pC, .slice nA s.notes.length nC, .int .i64 a, .int .i64 (s.steps + 1), .int .i64 s.br, .bool true, .int .i64 0]) rfl) (.inl HV.out) (.inl HSR.out) (.inl HP.out) (.inl HN.out) _ rfl
set_option maxRecDepth 100000 in
set_option maxHeartbeats 4000000 in
theorem rstep_ok16 {w : World} (cA : Option Addr) (cC : Nat) (ins : List S42) (V P : Int) (s : St) (vA sA pA nA : Option Addr) (vC sC pC nC : Nat) (gA : Option Addr) (gC : Nat) (gl : List Int) (xs : List Int) (hr0 : Kd.C k42 w cA ins.length ins) (hv : RD w (.slice vA s.vars.length vC) s.vars) (hs : RD w (.slice sA xs.length sC) xs) (hp : RD w (.slice pA s.pts.length pC) s.pts) (hn : RD w (.slice nA s.notes.length nC) s.notes) (h3 : s.steps < 3000) (h30 : 0 ≤ s.steps) (h400 : xs.length ≤ 400) (n : Nat) (hnL : n < ins.length) (hnB : n ≤ 9000000000000000000) (a b : Int) (hop : insF ins n = (16, a, b)) :
    Calls Tryd.prog 19 #[.agg #[.slice cA ins.length cC, .int .i64 V, .int .i64 P], .agg (stC (n : Nat) (.slice vA s.vars.length vC) (.slice sA xs.length sC) (.slice pA s.pts.length pC) (.slice nA s.notes.length nC) s.fin s.steps s.br false 0), .slice gA gl.length gC] w (RLeft w (.ok { s with pc := (n : Int) + 1, steps := s.steps + 1, stack := xs, done := true })) := by
  have HOP := Lib.hid hop
  clear hop
  have hcap := (RD.C hs).2.1
  have hd : decide (3000 ≤ s.steps) = false := decide_eq_false (by omega)
  have hd1 : decide ((n : Int) < 0) = false := decide_eq_false (by omega)
  have hd2 : decide (ins.length ≤ n) = false := decide_eq_false (by omega)
  have HV := Lib.hid hv
  have HS := Lib.hid hs
  have HP := Lib.hid hp
  have HN := Lib.hid hn
  have HR0 := Lib.hid hr0
  have HPRE := Lib.hid (pre_world w (.cells #[.slice cA ins.length cC, .int .i64 V, .int .i64 P] 24) (.cells #[.int .i64 (n : Nat), .slice vA s.vars.length vC, .slice sA xs.length sC, .slice pA s.pts.length pC, .slice nA s.notes.length nC, .int .i64 s.fin, .int .i64 s.steps, .int .i64 s.br, .bool false, .int .i64 0] 55) (.cells #[.int .i64 0, .slice none 0 0, .slice none 0 0, .slice none 0 0, .slice none 0 0, .int .i64 0, .int .i64 0, .int .i64 0, .bool false, .int .i64 0] 55))
  clear hv hs hp hn hr0
  go_enter Tryd.func19, Tryd.ntmps19
  go_upto_region 1 with fail
  obtain ⟨ho, hz, hc, hs3, hB⟩ := HPRE.out
  generalize hw3 : ((w.alloc (.cells #[.slice cA ins.length cC, .int .i64 V, .int .i64 P] 24)).alloc (.cells #[.int .i64 (n : Nat), .slice vA s.vars.length vC, .slice sA xs.length sC, .slice pA s.pts.length pC, .slice nA s.notes.length nC, .int .i64 s.fin, .int .i64 s.steps, .int .i64 s.br, .bool false, .int .i64 0] 55)).alloc (.cells #[.int .i64 0, .slice none 0 0, .slice none 0 0, .slice none 0 0, .slice none 0 0, .int .i64 0, .int .i64 0, .int .i64 0, .bool false, .int .i64 0] 55) = w3 at ho hz hc hs3 hB ⊢
  clear hw3 HPRE
  have c0 : w3.cell? ⟨w.heap.size + 1, 0, none⟩ = some (.int .i64 (n : Nat)) := (blk_cell ho 0).trans rfl
  have c1 : w3.cell? ⟨w.heap.size + 1, 1, none⟩ = some (.slice vA s.vars.length vC) := (blk_cell ho 1).trans rfl
  have c2 : w3.cell? ⟨w.heap.size + 1, 2, none⟩ = some (.slice sA xs.length sC) := (blk_cell ho 2).trans rfl
  have c3 : w3.cell? ⟨w.heap.size + 1, 3, none⟩ = some (.slice pA s.pts.length pC) := (blk_cell ho 3).trans rfl
  have c4 : w3.cell? ⟨w.heap.size + 1, 4, none⟩ = some (.slice nA s.notes.length nC) := (blk_cell ho 4).trans rfl
  have c5 : w3.cell? ⟨w.heap.size + 1, 5, none⟩ = some (.int .i64 s.fin) := (blk_cell ho 5).trans rfl
  have c6 : w3.cell? ⟨w.heap.size + 1, 6, none⟩ = some (.int .i64 s.steps) := (blk_cell ho 6).trans rfl
  have c7 : w3.cell? ⟨w.heap.size + 1, 7, none⟩ = some (.int .i64 s.br) := (blk_cell ho 7).trans rfl
  have c8 : w3.cell? ⟨w.heap.size + 1, 8, none⟩ = some (.bool false) := (blk_cell ho 8).trans rfl
  have c9 : w3.cell? ⟨w.heap.size + 1, 9, none⟩ = some (.int .i64 0) := (blk_cell ho 9).trans rfl
  have y0 : w3.cell? ⟨w.heap.size + 1 + 1, 0, none⟩ = some (.int .i64 0) := (blk_cell hz 0).trans rfl
  have y1 : w3.cell? ⟨w.heap.size + 1 + 1, 1, none⟩ = some (.slice none 0 0) := (blk_cell hz 1).trans rfl
  have y2 : w3.cell? ⟨w.heap.size + 1 + 1, 2, none⟩ = some (.slice none 0 0) := (blk_cell hz 2).trans rfl
  have y3 : w3.cell? ⟨w.heap.size + 1 + 1, 3, none⟩ = some (.slice none 0 0) := (blk_cell hz 3).trans rfl
  have y4 : w3.cell? ⟨w.heap.size + 1 + 1, 4, none⟩ = some (.slice none 0 0) := (blk_cell hz 4).trans rfl
  have y5 : w3.cell? ⟨w.heap.size + 1 + 1, 5, none⟩ = some (.int .i64 0) := (blk_cell hz 5).trans rfl
  have y6 : w3.cell? ⟨w.heap.size + 1 + 1, 6, none⟩ = some (.int .i64 0) := (blk_cell hz 6).trans rfl
  have y7 : w3.cell? ⟨w.heap.size + 1 + 1, 7, none⟩ = some (.int .i64 0) := (blk_cell hz 7).trans rfl
  have y8 : w3.cell? ⟨w.heap.size + 1 + 1, 8, none⟩ = some (.bool false) := (blk_cell hz 8).trans rfl
  have y9 : w3.cell? ⟨w.heap.size + 1 + 1, 9, none⟩ = some (.int .i64 0) := (blk_cell hz 9).trans rfl
  have k0 : w3.cell? ⟨w.heap.size, 0, none⟩ = some (.slice cA ins.length cC) := (blk_cell hc 0).trans rfl
  have k1 : w3.cell? ⟨w.heap.size, 1, none⟩ = some (.int .i64 V) := (blk_cell hc 1).trans rfl
  have k2 : w3.cell? ⟨w.heap.size, 2, none⟩ = some (.int .i64 P) := (blk_cell hc 2).trans rfl
  have fo := blk_frozen ho
  have fz := blk_frozen hz
  have HO := Lib.hid ho
  have HZ := Lib.hid hz
  have HCD := Lib.hid hc
  have HB := Lib.hid hB
  have HSZ := Lib.hid (show w.heap.size + 3 ≤ w3.heap.size by omega)
  clear ho hz hc hB hs3
  obtain ⟨ad, hcA, hi0, hi1, hi2⟩ := at_T42 (Kd.C_below HR0.out HB.out) (n : Int) (by omega) (by omega)
  rw [Int.toNat_natCast] at hi0 hi1 hi2
  subst hcA
  have ei0 : w3.cell? (ad.add (n * 3)) = some (.int .i64 16) := hi0.trans (by rw [show (rd_T42 ins n).f0 = 16 from congrArg (·.1) HOP.out])
  have ei1 : w3.cell? ⟨(ad.add (n * 3)).block, (ad.add (n * 3)).off + 1, none⟩ = some (.int .i64 a) := hi1.trans (by rw [show (rd_T42 ins n).f1 = a from congrArg (·.2.1) HOP.out])
  have ei2 : w3.cell? ⟨(ad.add (n * 3)).block, (ad.add (n * 3)).off + 2, none⟩ = some (.int .i64 b) := hi2.trans (by rw [show (rd_T42 ins n).f2 = b from congrArg (·.2.2) HOP.out])
  clear hi0 hi1 hi2
  go_wp2_with fail
  refine (pops_16 _).mono ?_
  rintro e w' ⟨rfl, rfl⟩
  have hgl : w.heap.size + 3 ≤ w3.heap.size := HSZ.out
  have hF4 : Fr w (w3.alloc (.cells #[.int .i64 16, .int .i64 a, .int .i64 b] 42)) w3.heap.size #[.slice (some ad) ins.length cC, .int .i64 V, .int .i64 P] #[.int .i64 (n : Nat), .slice vA s.vars.length vC, .slice sA xs.length sC, .slice pA s.pts.length pC, .slice nA s.notes.length nC, .int .i64 s.fin, .int .i64 s.steps, .int .i64 s.br, .bool false, .int .i64 0] #[.int .i64 16, .int .i64 a, .int .i64 b] :=
    ⟨(Below.heap_alloc w3 _ _ (blk_lt HO.out)).trans HO.out, (Below.heap_alloc w3 _ _ (blk_lt HZ.out)).trans HZ.out, (Below.heap_alloc w3 _ _ (blk_lt HCD.out)).trans HCD.out, heap_alloc_new w3 _, HB.out.alloc HB.out.size _, by omega, by omega, hgl⟩
  have HF4 := Lib.hid hF4
  clear c0 y0 c1 y1 c2 y2 c3 y3 c4 y4 c5 y5 c6 y6 c7 y7 c8 y8 c9 y9 k0 k1 k2 fo fz ei0 ei1 ei2 hF4 hgl HSZ HO HZ HCD HB
  generalize w3.heap.size = gi at HF4 ⊢
  generalize w3.alloc (.cells #[.int .i64 16, .int .i64 a, .int .i64 b] 42) = w4 at HF4 ⊢
  obtain ⟨c0, c1, c2, c3, c4, c5, c6, c7, c8, c9⟩ := HF4.out.so
  obtain ⟨y0, y1, y2, y3, y4, y5, y6, y7, y8, y9⟩ := HF4.out.sz
  obtain ⟨k0, k1, k2⟩ := HF4.out.sk
  obtain ⟨i0, i1, i2⟩ := HF4.out.si
  have fo := HF4.out.fo
  have fz := HF4.out.fz
  go_upto_region 27 with fail
  have HF7 := Lib.hid (((HF4.out.set 2 (.slice sA xs.length sC) (st' := #[.int .i64 (n : Nat), .slice vA s.vars.length vC, .slice sA xs.length sC, .slice pA s.pts.length pC, .slice nA s.notes.length nC, .int .i64 s.fin, .int .i64 s.steps, .int .i64 s.br, .bool false, .int .i64 0]) rfl).set 0 (.int .i64 ((n : Int) + 1)) (st' := #[.int .i64 ((n : Int) + 1), .slice vA s.vars.length vC, .slice sA xs.length sC, .slice pA s.pts.length pC, .slice nA s.notes.length nC, .int .i64 s.fin, .int .i64 s.steps, .int .i64 s.br, .bool false, .int .i64 0]) rfl).set 6 (.int .i64 (s.steps + 1)) (st' := #[.int .i64 ((n : Int) + 1), .slice vA s.vars.length vC, .slice sA xs.length sC, .slice pA s.pts.length pC, .slice nA s.notes.length nC, .int .i64 s.fin, .int .i64 (s.steps + 1), .int .i64 s.br, .bool false, .int .i64 0]) rfl)
  clear c0 y0 c1 y1 c2 y2 c3 y3 c4 y4 c5 y5 c6 y6 c7 y7 c8 y8 c9 y9 k0 k1 k2 i0 i1 i2 fo fz
  generalize ((w4.setCell ⟨w.heap.size + 1, 2, none⟩ (.slice sA xs.length sC)).setCell ⟨w.heap.size + 1, 0, none⟩ (.int .i64 ((n : Int) + 1))).setCell ⟨w.heap.size + 1, 6, none⟩ (.int .i64 (s.steps + 1)) = w7 at HF7 ⊢
  have HSR := Lib.hid (show RD w (.slice sA xs.length sC) xs from HS.out)
  obtain ⟨c0, c1, c2, c3, c4, c5, c6, c7, c8, c9⟩ := HF7.out.so
  obtain ⟨y0, y1, y2, y3, y4, y5, y6, y7, y8, y9⟩ := HF7.out.sz
  obtain ⟨k0, k1, k2⟩ := HF7.out.sk
  obtain ⟨i0, i1, i2⟩ := HF7.out.si
  have fo := HF7.out.fo
  have fz := HF7.out.fz
  clear HF4
  go_wp2_with fail
  exact ok_end { s with pc := (n : Int) + 1, steps := s.steps + 1, stack := xs, done := true } (HF7.out.set 8 (.bool true) (st' := #[.int .i64 ((n : Int) + 1), .slice vA s.vars.length vC, .slice sA xs.length sC, .slice pA s.pts.length pC, .slice nA s.notes.length nC, .int .i64 s.fin, .int .i64 (s.steps + 1), .int .i64 s.br, .bool true, .int .i64 0]) rfl) (.inl HV.out) (.inl HSR.out) (.inl HP.out) (.inl HN.out) _ rfl
end Go.Proofs.YtbgfkepnlpgagaaDoor.P
