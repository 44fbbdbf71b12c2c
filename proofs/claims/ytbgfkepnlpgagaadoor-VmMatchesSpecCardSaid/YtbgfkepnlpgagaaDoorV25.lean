/- The reference's step: a branch. -/
import Derived.Test.YtbgfkepnlpgagaaDoorV18
namespace Go.Proofs.YtbgfkepnlpgagaaDoor.P
open Go.RowKit Go.Proofs.YtbgfkepnlpgagaaDoorW.PrintWords Go.Proofs.YtbgfkepnlpgagaaDoorW.PrintLast Go.Proofs.YtbgfkepnlpgagaaDoorW.PrintMore
attribute [local go_sem] max2_int min2_int max_two min_two max_three min_three max_four min_four
set_option linter.unusedVariables false
set_option linter.unusedSimpArgs false
def rstep19.T54 : Bool × List (List Nat × List Nat) := (true, [([], []), ([0], [0]), ([1], [1]), ([], []), ([3], [3]), ([], []), ([5], [5]), ([6], [6]), ([], []), ([8], [8]), ([7, 9], [7, 9]), ([10], [10]), ([], []), ([11, 12], [11, 12]), ([2, 4, 13], [2, 4, 13]), ([0, 1, 2, 3, 4, 5, 6, 7, 8, 9, 10, 11, 12, 13, 14], []), ([15, 0, 1, 2, 3, 4, 5, 6, 7, 8, 9, 10, 11, 12, 13, 14], [15]), ([16, 14, 14, 0, 1, 2, 3, 4, 5, 6, 7, 8, 9, 10, 11, 12, 13, 14], [14, 16])])
def rstep19.B54 : List Nat := [0, 1, 3, 0, 8, 0, 32, 96, 0, 256, 992, 2016, 0, 8160, 16383, 32767, 65535, 131071]
theorem rstep19.tab54 : rtab .any (opsOf Tryd.f19 54) = rstep19.T54 := by kernel_rfl
theorem rstep19.bits54 : waitsOk rstep19.T54.2 rstep19.B54 = true := by kernel_rfl
set_option maxRecDepth 100000 in
set_option maxHeartbeats 4000000 in
theorem rstep_ok12_10 {w : World} (cA : Option Addr) (cC : Nat) (ins : List S42) (V P : Int) (s : St) (vA sA pA nA : Option Addr) (vC sC pC nC : Nat) (gA : Option Addr) (gC : Nat) (gl : List Int) (xs : List Int) (x : Int) (hr0 : Kd.C k42 w cA ins.length ins) (hv : RD w (.slice vA s.vars.length vC) s.vars) (hs : RD w (.slice sA (xs.length + 1) sC) (xs ++ [x])) (hp : RD w (.slice pA s.pts.length pC) s.pts) (hn : RD w (.slice nA s.notes.length nC) s.notes) (h3 : s.steps < 3000) (h30 : 0 ≤ s.steps) (h400 : xs.length ≤ 400) (n : Nat) (hnL : n < ins.length) (hnB : n ≤ 9000000000000000000) (a : Int) (j : Nat) (hj : j < s.pts.length) (hop : insF ins n = (12, a, ((j : Nat) : Int))) (hpl : s.pts.length ≤ 400) (hP : (s.pts.length : Int) = P) (hb0 : 0 ≤ s.br) (hb1 : s.br ≤ 3000) (hg2 : gl.length ≤ 4611686018427387904) (hG : Kd.C (Kd.int .i64) w gA gl.length gl) (ht : (x != 0) = true) (hin : (gl.any fun y => s.br == y) = false) :
    Calls Tryd.prog 19 #[.agg #[.slice cA ins.length cC, .int .i64 V, .int .i64 P], .agg (stC (n : Nat) (.slice vA s.vars.length vC) (.slice sA (xs.length + 1) sC) (.slice pA s.pts.length pC) (.slice nA s.notes.length nC) s.fin s.steps s.br false 0), .slice gA gl.length gC] w (RLeft w (.ok { s with pc := (n : Int) + 1, steps := s.steps + 1, stack := xs, br := s.br + 1, pts := s.pts.set j (orV (rd s.pts ((j : Nat) : Int)) 1), done := false })) := by
  have HOP := Lib.hid hop
  clear hop
  have hcap := (RD.C hs).2.1
  have hja : decide (((j : Nat) : Int) < 0) = false := decide_eq_false (by omega)
  have hjb : decide (P ≤ ((j : Nat) : Int)) = false := decide_eq_false (by omega)
  have HP_ := Lib.hid hP
  have HG := Lib.hid hG
  have HIN := Lib.hid hin
  clear hP hG hin
  have hd : decide (3000 ≤ s.steps) = false := decide_eq_false (by omega)
  have hd1 : decide ((n : Int) < 0) = false := decide_eq_false (by omega)
  have hd2 : decide (ins.length ≤ n) = false := decide_eq_false (by omega)
  have HV := Lib.hid hv
  have HS := Lib.hid hs
  have HP := Lib.hid hp
  have HN := Lib.hid hn
  have HR0 := Lib.hid hr0
  have HPRE := Lib.hid (pre_world w (.cells #[.slice cA ins.length cC, .int .i64 V, .int .i64 P] 24) (.cells #[.int .i64 (n : Nat), .slice vA s.vars.length vC, .slice sA (xs.length + 1) sC, .slice pA s.pts.length pC, .slice nA s.notes.length nC, .int .i64 s.fin, .int .i64 s.steps, .int .i64 s.br, .bool false, .int .i64 0] 55) (.cells #[.int .i64 0, .slice none 0 0, .slice none 0 0, .slice none 0 0, .slice none 0 0, .int .i64 0, .int .i64 0, .int .i64 0, .bool false, .int .i64 0] 55))
  clear hv hs hp hn hr0
  go_enter Tryd.func19, Tryd.ntmps19
  go_upto_region 1 with fail
  obtain ⟨ho, hz, hc, hs3, hB⟩ := HPRE.out
  generalize hw3 : ((w.alloc (.cells #[.slice cA ins.length cC, .int .i64 V, .int .i64 P] 24)).alloc (.cells #[.int .i64 (n : Nat), .slice vA s.vars.length vC, .slice sA (xs.length + 1) sC, .slice pA s.pts.length pC, .slice nA s.notes.length nC, .int .i64 s.fin, .int .i64 s.steps, .int .i64 s.br, .bool false, .int .i64 0] 55)).alloc (.cells #[.int .i64 0, .slice none 0 0, .slice none 0 0, .slice none 0 0, .slice none 0 0, .int .i64 0, .int .i64 0, .int .i64 0, .bool false, .int .i64 0] 55) = w3 at ho hz hc hs3 hB ⊢
  clear hw3 HPRE
  have c0 : w3.cell? ⟨w.heap.size + 1, 0, none⟩ = some (.int .i64 (n : Nat)) := (blk_cell ho 0).trans rfl
  have c1 : w3.cell? ⟨w.heap.size + 1, 1, none⟩ = some (.slice vA s.vars.length vC) := (blk_cell ho 1).trans rfl
  have c2 : w3.cell? ⟨w.heap.size + 1, 2, none⟩ = some (.slice sA (xs.length + 1) sC) := (blk_cell ho 2).trans rfl
  have c3 : w3.cell? ⟨w.heap.size + 1, 3, none⟩ = some (.slice pA s.pts.length pC) := (blk_cell ho 3).trans rfl
  have c4 : w3.cell? ⟨w.heap.size + 1, 4, none⟩ = some (.slice nA s.notes.length nC) := (blk_cell ho 4).trans rfl
  have c5 : w3.cell? ⟨w.heap.size + 1, 5, none⟩ = some (.int .i64 s.fin) := (blk_cell ho 5).trans rfl
  have c6 : w3.cell? ⟨w.heap.size + 1, 6, none⟩ = some (.int .i64 s.steps) := (blk_cell ho 6).trans rfl
  have c7 : w3.cell? ⟨w.heap.size + 1, 7, none⟩ = some (.int .i64 s.br) := (blk_cell ho 7).trans rfl
  have c8 : w3.cell? ⟨w.heap.size + 1, 8, none⟩ = some (.bool false) := (blk_cell ho 8).trans rfl
  have c9 : w3.cell? ⟨w.heap.size + 1, 9, none⟩ = some (.int .i64 0) := (blk_cell ho 9).trans rfl
  have y0 : w3.cell? ⟨w.heap.size + 1 + 1, 0, none⟩ = some (.int .i64 0) := (blk_cell hz 0).trans rfl
  have y1 : w3.cell? ⟨w.heap.size + 1 + 1, 1, none⟩ = some (.slice none 0 0) := (blk_cell hz 1).trans rfl
  have y2 : w3.cell? ⟨w.heap.size + 1 + 1, 2, none⟩ = some (.slice none 0 0) := (blk_cell hz 2).trans rfl
  have y3 : w3.cell? ⟨w.heap.size + 1 + 1, 3, none⟩ = some (.slice none 0 0) := (blk_cell hz 3).trans rfl
  have y4 : w3.cell? ⟨w.heap.size + 1 + 1, 4, none⟩ = some (.slice none 0 0) := (blk_cell hz 4).trans rfl
  have y5 : w3.cell? ⟨w.heap.size + 1 + 1, 5, none⟩ = some (.int .i64 0) := (blk_cell hz 5).trans rfl
  have y6 : w3.cell? ⟨w.heap.size + 1 + 1, 6, none⟩ = some (.int .i64 0) := (blk_cell hz 6).trans rfl
  have y7 : w3.cell? ⟨w.heap.size + 1 + 1, 7, none⟩ = some (.int .i64 0) := (blk_cell hz 7).trans rfl
  have y8 : w3.cell? ⟨w.heap.size + 1 + 1, 8, none⟩ = some (.bool false) := (blk_cell hz 8).trans rfl
  have y9 : w3.cell? ⟨w.heap.size + 1 + 1, 9, none⟩ = some (.int .i64 0) := (blk_cell hz 9).trans rfl
  have k0 : w3.cell? ⟨w.heap.size, 0, none⟩ = some (.slice cA ins.length cC) := (blk_cell hc 0).trans rfl
  have k1 : w3.cell? ⟨w.heap.size, 1, none⟩ = some (.int .i64 V) := (blk_cell hc 1).trans rfl
  have k2 : w3.cell? ⟨w.heap.size, 2, none⟩ = some (.int .i64 P) := (blk_cell hc 2).trans rfl
  have fo := blk_frozen ho
  have fz := blk_frozen hz
  have HO := Lib.hid ho
  have HZ := Lib.hid hz
  have HCD := Lib.hid hc
  have HB := Lib.hid hB
  have HSZ := Lib.hid (show w.heap.size + 3 ≤ w3.heap.size by omega)
  clear ho hz hc hB hs3
  obtain ⟨ad, hcA, hi0, hi1, hi2⟩ := at_T42 (Kd.C_below HR0.out HB.out) (n : Int) (by omega) (by omega)
  rw [Int.toNat_natCast] at hi0 hi1 hi2
  subst hcA
  have ei0 : w3.cell? (ad.add (n * 3)) = some (.int .i64 12) := hi0.trans (by rw [show (rd_T42 ins n).f0 = 12 from congrArg (·.1) HOP.out])
  have ei1 : w3.cell? ⟨(ad.add (n * 3)).block, (ad.add (n * 3)).off + 1, none⟩ = some (.int .i64 a) := hi1.trans (by rw [show (rd_T42 ins n).f1 = a from congrArg (·.2.1) HOP.out])
  have ei2 : w3.cell? ⟨(ad.add (n * 3)).block, (ad.add (n * 3)).off + 2, none⟩ = some (.int .i64 (j : Nat)) := hi2.trans (by rw [show (rd_T42 ins n).f2 = (j : Nat) from congrArg (·.2.2) HOP.out])
  clear hi0 hi1 hi2
  go_wp2_with fail
  refine (pops_12 _).mono ?_
  rintro e w' ⟨rfl, rfl⟩
  have hgl : w.heap.size + 3 ≤ w3.heap.size := HSZ.out
  have hF4 : Fr w (w3.alloc (.cells #[.int .i64 12, .int .i64 a, .int .i64 (j : Nat)] 42)) w3.heap.size #[.slice (some ad) ins.length cC, .int .i64 V, .int .i64 P] #[.int .i64 (n : Nat), .slice vA s.vars.length vC, .slice sA (xs.length + 1) sC, .slice pA s.pts.length pC, .slice nA s.notes.length nC, .int .i64 s.fin, .int .i64 s.steps, .int .i64 s.br, .bool false, .int .i64 0] #[.int .i64 12, .int .i64 a, .int .i64 (j : Nat)] :=
    ⟨(Below.heap_alloc w3 _ _ (blk_lt HO.out)).trans HO.out, (Below.heap_alloc w3 _ _ (blk_lt HZ.out)).trans HZ.out, (Below.heap_alloc w3 _ _ (blk_lt HCD.out)).trans HCD.out, heap_alloc_new w3 _, HB.out.alloc HB.out.size _, by omega, by omega, hgl⟩
  have HF4 := Lib.hid hF4
  clear c0 y0 c1 y1 c2 y2 c3 y3 c4 y4 c5 y5 c6 y6 c7 y7 c8 y8 c9 y9 k0 k1 k2 fo fz ei0 ei1 ei2 hF4 hgl HSZ HO HZ HCD HB
  generalize w3.heap.size = gi at HF4 ⊢
  generalize w3.alloc (.cells #[.int .i64 12, .int .i64 a, .int .i64 (j : Nat)] 42) = w4 at HF4 ⊢
  obtain ⟨c0, c1, c2, c3, c4, c5, c6, c7, c8, c9⟩ := HF4.out.so
  obtain ⟨y0, y1, y2, y3, y4, y5, y6, y7, y8, y9⟩ := HF4.out.sz
  obtain ⟨k0, k1, k2⟩ := HF4.out.sk
  obtain ⟨i0, i1, i2⟩ := HF4.out.si
  have fo := HF4.out.fo
  have fz := HF4.out.fz
  obtain ⟨hln, hlc, hCs⟩ := RD.C (HS.out.below HF4.out.b)
  obtain ⟨adS, hsA, hx1⟩ := Kd.at_int hCs (xs.length : Int) (by omega) (by omega)
  subst hsA
  rw [Int.toNat_natCast] at hx1
  have kx : w4.cell? (adS.add xs.length) = some (.int .i64 x) := hx1.trans (by rw [rd_last1])
  clear hx1 hln hCs
  go_upto_region 27 with fail
  have HF7 := Lib.hid (((HF4.out.set 2 (.slice (some adS) xs.length sC) (st' := #[.int .i64 (n : Nat), .slice vA s.vars.length vC, .slice (some adS) xs.length sC, .slice pA s.pts.length pC, .slice nA s.notes.length nC, .int .i64 s.fin, .int .i64 s.steps, .int .i64 s.br, .bool false, .int .i64 0]) rfl).set 0 (.int .i64 ((n : Int) + 1)) (st' := #[.int .i64 ((n : Int) + 1), .slice vA s.vars.length vC, .slice (some adS) xs.length sC, .slice pA s.pts.length pC, .slice nA s.notes.length nC, .int .i64 s.fin, .int .i64 s.steps, .int .i64 s.br, .bool false, .int .i64 0]) rfl).set 6 (.int .i64 (s.steps + 1)) (st' := #[.int .i64 ((n : Int) + 1), .slice vA s.vars.length vC, .slice (some adS) xs.length sC, .slice pA s.pts.length pC, .slice nA s.notes.length nC, .int .i64 s.fin, .int .i64 (s.steps + 1), .int .i64 s.br, .bool false, .int .i64 0]) rfl)
  clear c0 y0 c1 y1 c2 y2 c3 y3 c4 y4 c5 y5 c6 y6 c7 y7 c8 y8 c9 y9 k0 k1 k2 i0 i1 i2 fo fz kx
  generalize ((w4.setCell ⟨w.heap.size + 1, 2, none⟩ (.slice (some adS) xs.length sC)).setCell ⟨w.heap.size + 1, 0, none⟩ (.int .i64 ((n : Int) + 1))).setCell ⟨w.heap.size + 1, 6, none⟩ (.int .i64 (s.steps + 1)) = w7 at HF7 ⊢
  have HSR := Lib.hid (show RD w (.slice (some adS) xs.length sC) xs from by have h := HS.out.take xs.length (by omega); rwa [List.take_left' rfl] at h)
  obtain ⟨c0, c1, c2, c3, c4, c5, c6, c7, c8, c9⟩ := HF7.out.so
  obtain ⟨y0, y1, y2, y3, y4, y5, y6, y7, y8, y9⟩ := HF7.out.sz
  obtain ⟨k0, k1, k2⟩ := HF7.out.sk
  obtain ⟨i0, i1, i2⟩ := HF7.out.si
  have fo := HF7.out.fo
  have fz := HF7.out.fz
  clear HF4
  obtain ⟨_, _, hCp⟩ := RD.C (HP.out.below HF7.out.b)
  obtain ⟨ap, hpA, _⟩ := Kd.at_int hCp ((j : Nat) : Int) (by omega) (by omega)
  subst hpA
  clear hCp
  go_upto_region 54 with (go_at_call 28; refine (rin_any gA _ gC gl s.br _ rfl hg2 (Kd.C_below HG.out HF7.out.b)).mono ?_; rintro e w' ⟨rfl, rfl⟩; rw [HIN.out])
  have HF8 := Lib.hid (HF7.out.set 7 (.int .i64 (s.br + 1)) (st' := #[.int .i64 ((n : Int) + 1), .slice vA s.vars.length vC, .slice (some adS) xs.length sC, .slice (some ap) s.pts.length pC, .slice nA s.notes.length nC, .int .i64 s.fin, .int .i64 (s.steps + 1), .int .i64 (s.br + 1), .bool false, .int .i64 0]) rfl)
  clear c0 y0 c1 y1 c2 y2 c3 y3 c4 y4 c5 y5 c6 y6 c7 y7 c8 y8 c9 y9 k0 k1 k2 i0 i1 i2 fo fz
  generalize w7.setCell ⟨w.heap.size + 1, 7, none⟩ (.int .i64 (s.br + 1)) = w8 at HF8 ⊢
  obtain ⟨c0, c1, c2, c3, c4, c5, c6, c7, c8, c9⟩ := HF8.out.so
  obtain ⟨y0, y1, y2, y3, y4, y5, y6, y7, y8, y9⟩ := HF8.out.sz
  obtain ⟨k0, k1, k2⟩ := HF8.out.sk
  obtain ⟨i0, i1, i2⟩ := HF8.out.si
  have fo := HF8.out.fo
  have fz := HF8.out.fz
  have hxp : w8.cell? (ap.add j) = some (.int .i64 (rd s.pts ((j : Nat) : Int))) := by
    obtain ⟨_, _, hCp⟩ := RD.C (HP.out.below HF8.out.b)
    obtain ⟨ap', hpA, hx⟩ := Kd.at_int hCp ((j : Nat) : Int) (by omega) (by omega)
    injection hpA with hpA
    subst hpA
    rw [Int.toNat_natCast] at hx
    exact hx
  refine start_ (n := 18) (S := fun w' => w'.cell? ⟨w.heap.size + 1, 3, none⟩ = some (.slice (some ap) s.pts.length pC) ∧ w'.cell? ⟨gi, 2, none⟩ = some (.int .i64 (j : Nat)) ∧ w'.cell? (ap.add j) = some (.int .i64 (rd s.pts ((j : Nat) : Int)))) (ds := [17]) #[false, false, false, false, false, false, false, false, false, false, false, false, false, false, false, false, false, false] (by kernel_rfl) rfl rfl ⟨(World.cell?_drew _ _).trans c3, (World.cell?_drew _ _).trans i2, (World.cell?_drew _ _).trans hxp⟩ (fun hHeld => ?_)
  refine with_tabW rstep19.tab54 rstep19.bits54 (fun HT_ HW_ => ?_)
  have HF9 := Lib.hid HF8.out.drew
  clear c0 y0 c1 y1 c2 y2 c3 y3 c4 y4 c5 y5 c6 y6 c7 y7 c8 y8 c9 y9 k0 k1 k2 i0 i1 i2 fo fz hxp
  generalize w8.drew = w9 at HF9 hHeld ⊢
  refine pure_ (i := 0) (N := some 200) (v := ?_) (a' := ?_) #[true, false, false, false, false, false, false, false, false, false, false, false, false, false, false, false, false, false] rfl rfl (any_of HT_.out (by kernel_rfl)) (fun _ _ _ h => h) (Or.inl ⟨by rfl, ?_⟩) ?_ ?_
  rotate_left
  · intro w'
    go_simp
    first | done | (with_reducible rfl)
  rotate_left
  · simp only [Act.put, List.setIfInBounds_toArray, List.set_cons_zero, List.set_cons_succ, i64_w, i32_w]
    rfl
  refine pure_ (i := 1) (N := some 201) (v := ?_) (a' := ?_) #[true, true, false, false, false, false, false, false, false, false, false, false, false, false, false, false, false, false] rfl rfl (any_of HT_.out (by kernel_rfl)) (fun _ _ _ h => h) (Or.inl ⟨by rfl, ?_⟩) ?_ ?_
  rotate_left
  · intro w'
    go_simp
    first | done | (with_reducible rfl)
  rotate_left
  · simp only [Act.put, List.setIfInBounds_toArray, List.set_cons_zero, List.set_cons_succ, i64_w, i32_w]
    rfl
  refine pure_ (i := 3) (N := some 203) (v := ?_) (a' := ?_) #[true, true, false, true, false, false, false, false, false, false, false, false, false, false, false, false, false, false] rfl rfl (any_of HT_.out (by kernel_rfl)) (fun _ _ _ h => h) (Or.inl ⟨by rfl, ?_⟩) ?_ ?_
  rotate_left
  · intro w'
    go_simp
    first | done | (with_reducible rfl)
  rotate_left
  · simp only [Act.put, List.setIfInBounds_toArray, List.set_cons_zero, List.set_cons_succ, i64_w, i32_w]
    rfl
  refine pure_ (i := 5) (N := some 205) (v := ?_) (a' := ?_) #[true, true, false, true, false, true, false, false, false, false, false, false, false, false, false, false, false, false] rfl rfl (any_of HT_.out (by kernel_rfl)) (fun _ _ _ h => h) (Or.inl ⟨by rfl, ?_⟩) ?_ ?_
  rotate_left
  · intro w'
    go_simp
    first | done | (with_reducible rfl)
  rotate_left
  · simp only [Act.put, List.setIfInBounds_toArray, List.set_cons_zero, List.set_cons_succ, i64_w, i32_w]
    rfl
  refine pure_ (i := 6) (N := some 206) (v := ?_) (a' := ?_) #[true, true, false, true, false, true, true, false, false, false, false, false, false, false, false, false, false, false] rfl rfl (any_of HT_.out (by kernel_rfl)) (fun _ _ _ h => h) (Or.inl ⟨by rfl, ?_⟩) ?_ ?_
  rotate_left
  · intro w'
    go_simp
    first | done | (with_reducible rfl)
  rotate_left
  · simp only [Act.put, List.setIfInBounds_toArray, List.set_cons_zero, List.set_cons_succ, i64_w, i32_w]
    rfl
  refine pure_ (i := 8) (N := some 208) (v := ?_) (a' := ?_) #[true, true, false, true, false, true, true, false, true, false, false, false, false, false, false, false, false, false] rfl rfl (any_of HT_.out (by kernel_rfl)) (fun _ _ _ h => h) (Or.inl ⟨by rfl, ?_⟩) ?_ ?_
  rotate_left
  · intro w'
    go_simp
    first | done | (with_reducible rfl)
  rotate_left
  · simp only [Act.put, List.setIfInBounds_toArray, List.set_cons_zero, List.set_cons_succ, i64_w, i32_w]
    rfl
  refine pure_ (i := 12) (N := some 212) (v := ?_) (a' := ?_) #[true, true, false, true, false, true, true, false, true, false, false, false, true, false, false, false, false, false] rfl rfl (any_of HT_.out (by kernel_rfl)) (fun _ _ _ h => h) (Or.inl ⟨by rfl, ?_⟩) ?_ ?_
  rotate_left
  · intro w'
    go_simp
    first | done | (with_reducible rfl)
  rotate_left
  · simp only [Act.put, List.setIfInBounds_toArray, List.set_cons_zero, List.set_cons_succ, i64_w, i32_w]
    rfl
  refine take_ (i := 2) (N := some 202) (v := ?_) (a' := ?_) #[true, true, true, true, false, true, true, false, true, false, false, false, true, false, false, false, false, false] rfl rfl (take_ofW HT_.out HW_.out (by kernel_rfl)) (fun _ _ _ h => h) (Or.inl ⟨by rfl, ?_⟩) hHeld ?_ ?_
  rotate_left
  · rintro w' ⟨s0, s1, s2⟩
    go_simp
    first | done | (with_reducible rfl)
  rotate_left
  · simp only [Act.put, List.setIfInBounds_toArray, List.set_cons_zero, List.set_cons_succ, i64_w, i32_w]
    rfl
  refine take_ (i := 4) (N := some 204) (v := ?_) (a' := ?_) #[true, true, true, true, true, true, true, false, true, false, false, false, true, false, false, false, false, false] rfl rfl (take_ofW HT_.out HW_.out (by kernel_rfl)) (fun _ _ _ h => h) (Or.inl ⟨by rfl, ?_⟩) hHeld ?_ ?_
  rotate_left
  · rintro w' ⟨s0, s1, s2⟩
    go_simp
    first | done | (with_reducible rfl)
  rotate_left
  · simp only [Act.put, List.setIfInBounds_toArray, List.set_cons_zero, List.set_cons_succ, i64_w, i32_w]
    rfl
  refine take_ (i := 7) (N := some 207) (v := ?_) (a' := ?_) #[true, true, true, true, true, true, true, true, true, false, false, false, true, false, false, false, false, false] rfl rfl (take_ofW HT_.out HW_.out (by kernel_rfl)) (fun _ _ _ h => h) (Or.inl ⟨by rfl, ?_⟩) hHeld ?_ ?_
  rotate_left
  · rintro w' ⟨s0, s1, s2⟩
    go_simp
    first | done | (with_reducible rfl)
  rotate_left
  · simp only [Act.put, List.setIfInBounds_toArray, List.set_cons_zero, List.set_cons_succ, i64_w, i32_w]
    rfl
  refine take_ (i := 9) (N := some 209) (v := ?_) (a' := ?_) #[true, true, true, true, true, true, true, true, true, true, false, false, true, false, false, false, false, false] rfl rfl (take_ofW HT_.out HW_.out (by kernel_rfl)) (fun _ _ _ h => h) (Or.inl ⟨by rfl, ?_⟩) hHeld ?_ ?_
  rotate_left
  · rintro w' ⟨s0, s1, s2⟩
    go_simp
    first | done | (with_reducible rfl)
  rotate_left
  · simp only [Act.put, List.setIfInBounds_toArray, List.set_cons_zero, List.set_cons_succ, i64_w, i32_w]
    rfl
  refine pure_ (i := 10) (N := some 210) (v := ?_) (a' := ?_) #[true, true, true, true, true, true, true, true, true, true, true, false, true, false, false, false, false, false] rfl rfl (any_of HT_.out (by kernel_rfl)) (fun _ _ _ h => h) (Or.inl ⟨by rfl, ?_⟩) ?_ ?_
  rotate_left
  · intro w'
    go_simp
    first | done | (with_reducible rfl)
  rotate_left
  · simp only [Act.put, List.setIfInBounds_toArray, List.set_cons_zero, List.set_cons_succ, i64_w, i32_w]
    rfl
  refine take_ (i := 11) (N := some 211) (v := ?_) (a' := ?_) #[true, true, true, true, true, true, true, true, true, true, true, true, true, false, false, false, false, false] rfl rfl (take_ofW HT_.out HW_.out (by kernel_rfl)) (fun _ _ _ h => h) (Or.inl ⟨by rfl, ?_⟩) hHeld ?_ ?_
  rotate_left
  · rintro w' ⟨s0, s1, s2⟩
    go_simp
    first | done | (with_reducible rfl)
  rotate_left
  · simp only [Act.put, List.setIfInBounds_toArray, List.set_cons_zero, List.set_cons_succ, i64_w, i32_w]
    rfl
  refine pure_ (i := 13) (N := some 213) (v := ?_) (a' := ?_) #[true, true, true, true, true, true, true, true, true, true, true, true, true, true, false, false, false, false] rfl rfl (any_of HT_.out (by kernel_rfl)) (fun _ _ _ h => h) (Or.inl ⟨by rfl, ?_⟩) ?_ ?_
  rotate_left
  · intro w'
    go_simp
    first | done | (with_reducible rfl)
  rotate_left
  · simp only [Act.put, List.setIfInBounds_toArray, List.set_cons_zero, List.set_cons_succ, i64_w, i32_w]
    rfl
  refine one_ (i := 14) (N := some 214) #[true, true, true, true, true, true, true, true, true, true, true, true, true, true, true, false, false, false] rfl rfl (one_of HT_.out (by kernel_rfl)) (by decide) (fun K hK => ?_)
  refine goes_ Tryd.func25 (by kernel_rfl) rfl #[.slice (some ap) s.pts.length pC, .int .i64 (j : Nat), .int .i64 (orV (rd s.pts ((j : Nat) : Int)) 1)] (by rfl) rfl rfl (by (try simp only [List.map_toArray, List.map_cons, List.map_nil]); first | done | rfl) ?_
  refine (bootchainref17_with.calls (some ap) pC s.pts ((j : Nat) : Int) (orV (rd s.pts ((j : Nat) : Int)) 1) (s.pts.set j (orV (rd s.pts ((j : Nat) : Int)) 1)) w9 (RD.C (HP.out.below HF9.out.b)).2.2 (RD.C HP.out).2.1 (with_f s.pts j _ hj hpl)).mono ?_
  rintro e w10 ⟨v8, rfl, ho8, hb8⟩
  have HO8 := Lib.hid (Kd.R_lower ho8 HF9.out.b.size)
  obtain ⟨A8, n8, e8, _, _⟩ := Kd.R_reads ho8
  rw [List.length_set] at e8
  subst e8
  have HF10 := Lib.hid (HF9.out.below hb8)
  have hh1 := (hb8.cell (World.block_lt_of_cell? w9 _ hHeld.1)).trans hHeld.1
  have hh2 := (hb8.cell (World.block_lt_of_cell? w9 _ hHeld.2.1)).trans hHeld.2.1
  have hh3 := (hb8.cell (World.block_lt_of_cell? w9 _ hHeld.2.2)).trans hHeld.2.2
  clear ho8 hb8
  refine ⟨_, rfl, ?_⟩
  refine hK.out _ _ ⟨hh1, hh2, hh3⟩ (fun hHeld => ?_)
  clear hK K
  refine norm_ (a' := ?_) ?_ ?_
  rotate_left
  · show Act.put _ (some 214) _ = _
    simp only [Act.put, List.setIfInBounds_toArray, List.set_cons_zero, List.set_cons_succ, i64_w, i32_w]
    rfl
  clear hh1 hh2 hh3
  obtain ⟨c0, c1, c2, c3, c4, c5, c6, c7, c8, c9⟩ := HF10.out.so
  obtain ⟨y0, y1, y2, y3, y4, y5, y6, y7, y8, y9⟩ := HF10.out.sz
  obtain ⟨k0, k1, k2⟩ := HF10.out.sk
  obtain ⟨i0, i1, i2⟩ := HF10.out.si
  have fo := HF10.out.fo
  have fz := HF10.out.fz
  refine pure_ (i := 15) (N := some 215) (v := ?_) (a' := ?_) #[true, true, true, true, true, true, true, true, true, true, true, true, true, true, true, true, false, false] rfl rfl (any_of HT_.out (by kernel_rfl)) (fun _ _ _ h => h) (Or.inl ⟨by rfl, ?_⟩) ?_ ?_
  rotate_left
  · intro w'
    go_simp
    first | done | (with_reducible rfl)
  rotate_left
  · simp only [Act.put, List.setIfInBounds_toArray, List.set_cons_zero, List.set_cons_succ, i64_w, i32_w]
    rfl
  refine pure_ (i := 16) (N := some 216) (v := ?_) (a' := ?_) #[true, true, true, true, true, true, true, true, true, true, true, true, true, true, true, true, true, false] rfl rfl (any_of HT_.out (by kernel_rfl)) (fun _ _ _ h => h) (Or.inl ⟨by rfl, ?_⟩) ?_ ?_
  rotate_left
  · intro w'
    go_simp
    first | done | (with_reducible rfl)
  rotate_left
  · simp only [Act.put, List.setIfInBounds_toArray, List.set_cons_zero, List.set_cons_succ, i64_w, i32_w]
    rfl
  refine last_ (i := 17) (N := none) #[true, true, true, true, true, true, true, true, true, true, true, true, true, true, true, true, true, true] rfl rfl (one_of HT_.out (by kernel_rfl)) (by decide) (fun K hK => ?_)
  refine skip_ (w1 := ?_) (by rfl) rfl ?_ ?_
  rotate_left
  · go_simp
    rfl
  refine hK.out _ _ ?_
  clear hK K
  refine done_ (done_of HT_.out (by kernel_rfl)) ?_
  clear hHeld
  go_wp2_with fail
  have hrow := own_far (j := 3) (u := .slice A8 s.pts.length n8) (Kd.own_of_R HO8.out) (own_ne HF10.out.o (by decide) (Kd.own_of_R HO8.out))
  exact ok_end { s with pc := (n : Int) + 1, steps := s.steps + 1, stack := xs, br := s.br + 1, pts := s.pts.set j (orV (rd s.pts ((j : Nat) : Int)) 1), done := false } (HF10.out.set 3 (.slice A8 s.pts.length n8) (st' := #[.int .i64 ((n : Int) + 1), .slice vA s.vars.length vC, .slice (some adS) xs.length sC, .slice A8 s.pts.length n8, .slice nA s.notes.length nC, .int .i64 s.fin, .int .i64 (s.steps + 1), .int .i64 (s.br + 1), .bool false, .int .i64 0]) rfl) (.inl HV.out) (.inl HSR.out) (.inr hrow) (.inl HN.out) _ rfl
set_option maxRecDepth 100000 in
set_option maxHeartbeats 4000000 in
theorem rstep_ok12_11 {w : World} (cA : Option Addr) (cC : Nat) (ins : List S42) (V P : Int) (s : St) (vA sA pA nA : Option Addr) (vC sC pC nC : Nat) (gA : Option Addr) (gC : Nat) (gl : List Int) (xs : List Int) (x : Int) (hr0 : Kd.C k42 w cA ins.length ins) (hv : RD w (.slice vA s.vars.length vC) s.vars) (hs : RD w (.slice sA (xs.length + 1) sC) (xs ++ [x])) (hp : RD w (.slice pA s.pts.length pC) s.pts) (hn : RD w (.slice nA s.notes.length nC) s.notes) (h3 : s.steps < 3000) (h30 : 0 ≤ s.steps) (h400 : xs.length ≤ 400) (n : Nat) (hnL : n < ins.length) (hnB : n ≤ 9000000000000000000) (a : Int) (j : Nat) (hj : j < s.pts.length) (hop : insF ins n = (12, a, ((j : Nat) : Int))) (hpl : s.pts.length ≤ 400) (hP : (s.pts.length : Int) = P) (hb0 : 0 ≤ s.br) (hb1 : s.br ≤ 3000) (hg2 : gl.length ≤ 4611686018427387904) (hG : Kd.C (Kd.int .i64) w gA gl.length gl) (ht : (x != 0) = true) (hin : (gl.any fun y => s.br == y) = true) :
    Calls Tryd.prog 19 #[.agg #[.slice cA ins.length cC, .int .i64 V, .int .i64 P], .agg (stC (n : Nat) (.slice vA s.vars.length vC) (.slice sA (xs.length + 1) sC) (.slice pA s.pts.length pC) (.slice nA s.notes.length nC) s.fin s.steps s.br false 0), .slice gA gl.length gC] w (RLeft w (.ok { s with pc := a, steps := s.steps + 1, stack := xs, br := s.br + 1, pts := s.pts.set j (orV (rd s.pts ((j : Nat) : Int)) 2), done := false })) := by
  have HOP := Lib.hid hop
  clear hop
  have hcap := (RD.C hs).2.1
  have hja : decide (((j : Nat) : Int) < 0) = false := decide_eq_false (by omega)
  have hjb : decide (P ≤ ((j : Nat) : Int)) = false := decide_eq_false (by omega)
  have HP_ := Lib.hid hP
  have HG := Lib.hid hG
  have HIN := Lib.hid hin
  clear hP hG hin
  have hd : decide (3000 ≤ s.steps) = false := decide_eq_false (by omega)
  have hd1 : decide ((n : Int) < 0) = false := decide_eq_false (by omega)
  have hd2 : decide (ins.length ≤ n) = false := decide_eq_false (by omega)
  have HV := Lib.hid hv
  have HS := Lib.hid hs
  have HP := Lib.hid hp
  have HN := Lib.hid hn
  have HR0 := Lib.hid hr0
  have HPRE := Lib.hid (pre_world w (.cells #[.slice cA ins.length cC, .int .i64 V, .int .i64 P] 24) (.cells #[.int .i64 (n : Nat), .slice vA s.vars.length vC, .slice sA (xs.length + 1) sC, .slice pA s.pts.length pC, .slice nA s.notes.length nC, .int .i64 s.fin, .int .i64 s.steps, .int .i64 s.br, .bool false, .int .i64 0] 55) (.cells #[.int .i64 0, .slice none 0 0, .slice none 0 0, .slice none 0 0, .slice none 0 0, .int .i64 0, .int .i64 0, .int .i64 0, .bool false, .int .i64 0] 55))
  clear hv hs hp hn hr0
  go_enter Tryd.func19, Tryd.ntmps19
  go_upto_region 1 with fail
  obtain ⟨ho, hz, hc, hs3, hB⟩ := HPRE.out
  generalize hw3 : ((w.alloc (.cells #[.slice cA ins.length cC, .int .i64 V, .int .i64 P] 24)).alloc (.cells #[.int .i64 (n : Nat), .slice vA s.vars.length vC, .slice sA (xs.length + 1) sC, .slice pA s.pts.length pC, .slice nA s.notes.length nC, .int .i64 s.fin, .int .i64 s.steps, .int .i64 s.br, .bool false, .int .i64 0] 55)).alloc (.cells #[.int .i64 0, .slice none 0 0, .slice none 0 0, .slice none 0 0, .slice none 0 0, .int .i64 0, .int .i64 0, .int .i64 0, .bool false, .int .i64 0] 55) = w3 at ho hz hc hs3 hB ⊢
  clear hw3 HPRE
  have c0 : w3.cell? ⟨w.heap.size + 1, 0, none⟩ = some (.int .i64 (n : Nat)) := (blk_cell ho 0).trans rfl
  have c1 : w3.cell? ⟨w.heap.size + 1, 1, none⟩ = some (.slice vA s.vars.length vC) := (blk_cell ho 1).trans rfl
  have c2 : w3.cell? ⟨w.heap.size + 1, 2, none⟩ = some (.slice sA (xs.length + 1) sC) := (blk_cell ho 2).trans rfl
  have c3 : w3.cell? ⟨w.heap.size + 1, 3, none⟩ = some (.slice pA s.pts.length pC) := (blk_cell ho 3).trans rfl
  have c4 : w3.cell? ⟨w.heap.size + 1, 4, none⟩ = some (.slice nA s.notes.length nC) := (blk_cell ho 4).trans rfl
  have c5 : w3.cell? ⟨w.heap.size + 1, 5, none⟩ = some (.int .i64 s.fin) := (blk_cell ho 5).trans rfl
  have c6 : w3.cell? ⟨w.heap.size + 1, 6, none⟩ = some (.int .i64 s.steps) := (blk_cell ho 6).trans rfl
  have c7 : w3.cell? ⟨w.heap.size + 1, 7, none⟩ = some (.int .i64 s.br) := (blk_cell ho 7).trans rfl
  have c8 : w3.cell? ⟨w.heap.size + 1, 8, none⟩ = some (.bool false) := (blk_cell ho 8).trans rfl
  have c9 : w3.cell? ⟨w.heap.size + 1, 9, none⟩ = some (.int .i64 0) := (blk_cell ho 9).trans rfl
  have y0 : w3.cell? ⟨w.heap.size + 1 + 1, 0, none⟩ = some (.int .i64 0) := (blk_cell hz 0).trans rfl
  have y1 : w3.cell? ⟨w.heap.size + 1 + 1, 1, none⟩ = some (.slice none 0 0) := (blk_cell hz 1).trans rfl
  have y2 : w3.cell? ⟨w.heap.size + 1 + 1, 2, none⟩ = some (.slice none 0 0) := (blk_cell hz 2).trans rfl
  have y3 : w3.cell? ⟨w.heap.size + 1 + 1, 3, none⟩ = some (.slice none 0 0) := (blk_cell hz 3).trans rfl
  have y4 : w3.cell? ⟨w.heap.size + 1 + 1, 4, none⟩ = some (.slice none 0 0) := (blk_cell hz 4).trans rfl
  have y5 : w3.cell? ⟨w.heap.size + 1 + 1, 5, none⟩ = some (.int .i64 0) := (blk_cell hz 5).trans rfl
  have y6 : w3.cell? ⟨w.heap.size + 1 + 1, 6, none⟩ = some (.int .i64 0) := (blk_cell hz 6).trans rfl
  have y7 : w3.cell? ⟨w.heap.size + 1 + 1, 7, none⟩ = some (.int .i64 0) := (blk_cell hz 7).trans rfl
  have y8 : w3.cell? ⟨w.heap.size + 1 + 1, 8, none⟩ = some (.bool false) := (blk_cell hz 8).trans rfl
  have y9 : w3.cell? ⟨w.heap.size + 1 + 1, 9, none⟩ = some (.int .i64 0) := (blk_cell hz 9).trans rfl
  have k0 : w3.cell? ⟨w.heap.size, 0, none⟩ = some (.slice cA ins.length cC) := (blk_cell hc 0).trans rfl
  have k1 : w3.cell? ⟨w.heap.size, 1, none⟩ = some (.int .i64 V) := (blk_cell hc 1).trans rfl
  have k2 : w3.cell? ⟨w.heap.size, 2, none⟩ = some (.int .i64 P) := (blk_cell hc 2).trans rfl
  have fo := blk_frozen ho
  have fz := blk_frozen hz
  have HO := Lib.hid ho
  have HZ := Lib.hid hz
  have HCD := Lib.hid hc
  have HB := Lib.hid hB
  have HSZ := Lib.hid (show w.heap.size + 3 ≤ w3.heap.size by omega)
  clear ho hz hc hB hs3
  obtain ⟨ad, hcA, hi0, hi1, hi2⟩ := at_T42 (Kd.C_below HR0.out HB.out) (n : Int) (by omega) (by omega)
  rw [Int.toNat_natCast] at hi0 hi1 hi2
  subst hcA
  have ei0 : w3.cell? (ad.add (n * 3)) = some (.int .i64 12) := hi0.trans (by rw [show (rd_T42 ins n).f0 = 12 from congrArg (·.1) HOP.out])
  have ei1 : w3.cell? ⟨(ad.add (n * 3)).block, (ad.add (n * 3)).off + 1, none⟩ = some (.int .i64 a) := hi1.trans (by rw [show (rd_T42 ins n).f1 = a from congrArg (·.2.1) HOP.out])
  have ei2 : w3.cell? ⟨(ad.add (n * 3)).block, (ad.add (n * 3)).off + 2, none⟩ = some (.int .i64 (j : Nat)) := hi2.trans (by rw [show (rd_T42 ins n).f2 = (j : Nat) from congrArg (·.2.2) HOP.out])
  clear hi0 hi1 hi2
  go_wp2_with fail
  refine (pops_12 _).mono ?_
  rintro e w' ⟨rfl, rfl⟩
  have hgl : w.heap.size + 3 ≤ w3.heap.size := HSZ.out
  have hF4 : Fr w (w3.alloc (.cells #[.int .i64 12, .int .i64 a, .int .i64 (j : Nat)] 42)) w3.heap.size #[.slice (some ad) ins.length cC, .int .i64 V, .int .i64 P] #[.int .i64 (n : Nat), .slice vA s.vars.length vC, .slice sA (xs.length + 1) sC, .slice pA s.pts.length pC, .slice nA s.notes.length nC, .int .i64 s.fin, .int .i64 s.steps, .int .i64 s.br, .bool false, .int .i64 0] #[.int .i64 12, .int .i64 a, .int .i64 (j : Nat)] :=
    ⟨(Below.heap_alloc w3 _ _ (blk_lt HO.out)).trans HO.out, (Below.heap_alloc w3 _ _ (blk_lt HZ.out)).trans HZ.out, (Below.heap_alloc w3 _ _ (blk_lt HCD.out)).trans HCD.out, heap_alloc_new w3 _, HB.out.alloc HB.out.size _, by omega, by omega, hgl⟩
  have HF4 := Lib.hid hF4
  clear c0 y0 c1 y1 c2 y2 c3 y3 c4 y4 c5 y5 c6 y6 c7 y7 c8 y8 c9 y9 k0 k1 k2 fo fz ei0 ei1 ei2 hF4 hgl HSZ HO HZ HCD HB
  generalize w3.heap.size = gi at HF4 ⊢
  generalize w3.alloc (.cells #[.int .i64 12, .int .i64 a, .int .i64 (j : Nat)] 42) = w4 at HF4 ⊢
  obtain ⟨c0, c1, c2, c3, c4, c5, c6, c7, c8, c9⟩ := HF4.out.so
  obtain ⟨y0, y1, y2, y3, y4, y5, y6, y7, y8, y9⟩ := HF4.out.sz
  obtain ⟨k0, k1, k2⟩ := HF4.out.sk
  obtain ⟨i0, i1, i2⟩ := HF4.out.si
  have fo := HF4.out.fo
  have fz := HF4.out.fz
  obtain ⟨hln, hlc, hCs⟩ := RD.C (HS.out.below HF4.out.b)
  obtain ⟨adS, hsA, hx1⟩ := Kd.at_int hCs (xs.length : Int) (by omega) (by omega)
  subst hsA
  rw [Int.toNat_natCast] at hx1
  have kx : w4.cell? (adS.add xs.length) = some (.int .i64 x) := hx1.trans (by rw [rd_last1])
  clear hx1 hln hCs
  go_upto_region 27 with fail
  have HF7 := Lib.hid (((HF4.out.set 2 (.slice (some adS) xs.length sC) (st' := #[.int .i64 (n : Nat), .slice vA s.vars.length vC, .slice (some adS) xs.length sC, .slice pA s.pts.length pC, .slice nA s.notes.length nC, .int .i64 s.fin, .int .i64 s.steps, .int .i64 s.br, .bool false, .int .i64 0]) rfl).set 0 (.int .i64 ((n : Int) + 1)) (st' := #[.int .i64 ((n : Int) + 1), .slice vA s.vars.length vC, .slice (some adS) xs.length sC, .slice pA s.pts.length pC, .slice nA s.notes.length nC, .int .i64 s.fin, .int .i64 s.steps, .int .i64 s.br, .bool false, .int .i64 0]) rfl).set 6 (.int .i64 (s.steps + 1)) (st' := #[.int .i64 ((n : Int) + 1), .slice vA s.vars.length vC, .slice (some adS) xs.length sC, .slice pA s.pts.length pC, .slice nA s.notes.length nC, .int .i64 s.fin, .int .i64 (s.steps + 1), .int .i64 s.br, .bool false, .int .i64 0]) rfl)
  clear c0 y0 c1 y1 c2 y2 c3 y3 c4 y4 c5 y5 c6 y6 c7 y7 c8 y8 c9 y9 k0 k1 k2 i0 i1 i2 fo fz kx
  generalize ((w4.setCell ⟨w.heap.size + 1, 2, none⟩ (.slice (some adS) xs.length sC)).setCell ⟨w.heap.size + 1, 0, none⟩ (.int .i64 ((n : Int) + 1))).setCell ⟨w.heap.size + 1, 6, none⟩ (.int .i64 (s.steps + 1)) = w7 at HF7 ⊢
  have HSR := Lib.hid (show RD w (.slice (some adS) xs.length sC) xs from by have h := HS.out.take xs.length (by omega); rwa [List.take_left' rfl] at h)
  obtain ⟨c0, c1, c2, c3, c4, c5, c6, c7, c8, c9⟩ := HF7.out.so
  obtain ⟨y0, y1, y2, y3, y4, y5, y6, y7, y8, y9⟩ := HF7.out.sz
  obtain ⟨k0, k1, k2⟩ := HF7.out.sk
  obtain ⟨i0, i1, i2⟩ := HF7.out.si
  have fo := HF7.out.fo
  have fz := HF7.out.fz
  clear HF4
  obtain ⟨_, _, hCp⟩ := RD.C (HP.out.below HF7.out.b)
  obtain ⟨ap, hpA, _⟩ := Kd.at_int hCp ((j : Nat) : Int) (by omega) (by omega)
  subst hpA
  clear hCp
  go_upto_region 54 with (go_at_call 28; refine (rin_any gA _ gC gl s.br _ rfl hg2 (Kd.C_below HG.out HF7.out.b)).mono ?_; rintro e w' ⟨rfl, rfl⟩; rw [HIN.out])
  have HF8 := Lib.hid ((HF7.out.set 7 (.int .i64 (s.br + 1)) (st' := #[.int .i64 ((n : Int) + 1), .slice vA s.vars.length vC, .slice (some adS) xs.length sC, .slice (some ap) s.pts.length pC, .slice nA s.notes.length nC, .int .i64 s.fin, .int .i64 (s.steps + 1), .int .i64 (s.br + 1), .bool false, .int .i64 0]) rfl).set 0 (.int .i64 a) (st' := #[.int .i64 a, .slice vA s.vars.length vC, .slice (some adS) xs.length sC, .slice (some ap) s.pts.length pC, .slice nA s.notes.length nC, .int .i64 s.fin, .int .i64 (s.steps + 1), .int .i64 (s.br + 1), .bool false, .int .i64 0]) rfl)
  clear c0 y0 c1 y1 c2 y2 c3 y3 c4 y4 c5 y5 c6 y6 c7 y7 c8 y8 c9 y9 k0 k1 k2 i0 i1 i2 fo fz
  generalize (w7.setCell ⟨w.heap.size + 1, 7, none⟩ (.int .i64 (s.br + 1))).setCell ⟨w.heap.size + 1, 0, none⟩ (.int .i64 a) = w8 at HF8 ⊢
  obtain ⟨c0, c1, c2, c3, c4, c5, c6, c7, c8, c9⟩ := HF8.out.so
  obtain ⟨y0, y1, y2, y3, y4, y5, y6, y7, y8, y9⟩ := HF8.out.sz
  obtain ⟨k0, k1, k2⟩ := HF8.out.sk
  obtain ⟨i0, i1, i2⟩ := HF8.out.si
  have fo := HF8.out.fo
  have fz := HF8.out.fz
  have hxp : w8.cell? (ap.add j) = some (.int .i64 (rd s.pts ((j : Nat) : Int))) := by
    obtain ⟨_, _, hCp⟩ := RD.C (HP.out.below HF8.out.b)
    obtain ⟨ap', hpA, hx⟩ := Kd.at_int hCp ((j : Nat) : Int) (by omega) (by omega)
    injection hpA with hpA
    subst hpA
    rw [Int.toNat_natCast] at hx
    exact hx
  refine start_ (n := 18) (S := fun w' => w'.cell? ⟨w.heap.size + 1, 3, none⟩ = some (.slice (some ap) s.pts.length pC) ∧ w'.cell? ⟨gi, 2, none⟩ = some (.int .i64 (j : Nat)) ∧ w'.cell? (ap.add j) = some (.int .i64 (rd s.pts ((j : Nat) : Int)))) (ds := [17]) #[false, false, false, false, false, false, false, false, false, false, false, false, false, false, false, false, false, false] (by kernel_rfl) rfl rfl ⟨(World.cell?_drew _ _).trans c3, (World.cell?_drew _ _).trans i2, (World.cell?_drew _ _).trans hxp⟩ (fun hHeld => ?_)
  refine with_tabW rstep19.tab54 rstep19.bits54 (fun HT_ HW_ => ?_)
  have HF9 := Lib.hid HF8.out.drew
  clear c0 y0 c1 y1 c2 y2 c3 y3 c4 y4 c5 y5 c6 y6 c7 y7 c8 y8 c9 y9 k0 k1 k2 i0 i1 i2 fo fz hxp
  generalize w8.drew = w9 at HF9 hHeld ⊢
  refine pure_ (i := 0) (N := some 200) (v := ?_) (a' := ?_) #[true, false, false, false, false, false, false, false, false, false, false, false, false, false, false, false, false, false] rfl rfl (any_of HT_.out (by kernel_rfl)) (fun _ _ _ h => h) (Or.inl ⟨by rfl, ?_⟩) ?_ ?_
  rotate_left
  · intro w'
    go_simp
    first | done | (with_reducible rfl)
  rotate_left
  · simp only [Act.put, List.setIfInBounds_toArray, List.set_cons_zero, List.set_cons_succ, i64_w, i32_w]
    rfl
  refine pure_ (i := 1) (N := some 201) (v := ?_) (a' := ?_) #[true, true, false, false, false, false, false, false, false, false, false, false, false, false, false, false, false, false] rfl rfl (any_of HT_.out (by kernel_rfl)) (fun _ _ _ h => h) (Or.inl ⟨by rfl, ?_⟩) ?_ ?_
  rotate_left
  · intro w'
    go_simp
    first | done | (with_reducible rfl)
  rotate_left
  · simp only [Act.put, List.setIfInBounds_toArray, List.set_cons_zero, List.set_cons_succ, i64_w, i32_w]
    rfl
  refine pure_ (i := 3) (N := some 203) (v := ?_) (a' := ?_) #[true, true, false, true, false, false, false, false, false, false, false, false, false, false, false, false, false, false] rfl rfl (any_of HT_.out (by kernel_rfl)) (fun _ _ _ h => h) (Or.inl ⟨by rfl, ?_⟩) ?_ ?_
  rotate_left
  · intro w'
    go_simp
    first | done | (with_reducible rfl)
  rotate_left
  · simp only [Act.put, List.setIfInBounds_toArray, List.set_cons_zero, List.set_cons_succ, i64_w, i32_w]
    rfl
  refine pure_ (i := 5) (N := some 205) (v := ?_) (a' := ?_) #[true, true, false, true, false, true, false, false, false, false, false, false, false, false, false, false, false, false] rfl rfl (any_of HT_.out (by kernel_rfl)) (fun _ _ _ h => h) (Or.inl ⟨by rfl, ?_⟩) ?_ ?_
  rotate_left
  · intro w'
    go_simp
    first | done | (with_reducible rfl)
  rotate_left
  · simp only [Act.put, List.setIfInBounds_toArray, List.set_cons_zero, List.set_cons_succ, i64_w, i32_w]
    rfl
  refine pure_ (i := 6) (N := some 206) (v := ?_) (a' := ?_) #[true, true, false, true, false, true, true, false, false, false, false, false, false, false, false, false, false, false] rfl rfl (any_of HT_.out (by kernel_rfl)) (fun _ _ _ h => h) (Or.inl ⟨by rfl, ?_⟩) ?_ ?_
  rotate_left
  · intro w'
    go_simp
    first | done | (with_reducible rfl)
  rotate_left
  · simp only [Act.put, List.setIfInBounds_toArray, List.set_cons_zero, List.set_cons_succ, i64_w, i32_w]
    rfl
  refine pure_ (i := 8) (N := some 208) (v := ?_) (a' := ?_) #[true, true, false, true, false, true, true, false, true, false, false, false, false, false, false, false, false, false] rfl rfl (any_of HT_.out (by kernel_rfl)) (fun _ _ _ h => h) (Or.inl ⟨by rfl, ?_⟩) ?_ ?_
  rotate_left
  · intro w'
    go_simp
    first | done | (with_reducible rfl)
  rotate_left
  · simp only [Act.put, List.setIfInBounds_toArray, List.set_cons_zero, List.set_cons_succ, i64_w, i32_w]
    rfl
  refine pure_ (i := 12) (N := some 212) (v := ?_) (a' := ?_) #[true, true, false, true, false, true, true, false, true, false, false, false, true, false, false, false, false, false] rfl rfl (any_of HT_.out (by kernel_rfl)) (fun _ _ _ h => h) (Or.inl ⟨by rfl, ?_⟩) ?_ ?_
  rotate_left
  · intro w'
    go_simp
    first | done | (with_reducible rfl)
  rotate_left
  · simp only [Act.put, List.setIfInBounds_toArray, List.set_cons_zero, List.set_cons_succ, i64_w, i32_w]
    rfl
  refine take_ (i := 2) (N := some 202) (v := ?_) (a' := ?_) #[true, true, true, true, false, true, true, false, true, false, false, false, true, false, false, false, false, false] rfl rfl (take_ofW HT_.out HW_.out (by kernel_rfl)) (fun _ _ _ h => h) (Or.inl ⟨by rfl, ?_⟩) hHeld ?_ ?_
  rotate_left
  · rintro w' ⟨s0, s1, s2⟩
    go_simp
    first | done | (with_reducible rfl)
  rotate_left
  · simp only [Act.put, List.setIfInBounds_toArray, List.set_cons_zero, List.set_cons_succ, i64_w, i32_w]
    rfl
  refine take_ (i := 4) (N := some 204) (v := ?_) (a' := ?_) #[true, true, true, true, true, true, true, false, true, false, false, false, true, false, false, false, false, false] rfl rfl (take_ofW HT_.out HW_.out (by kernel_rfl)) (fun _ _ _ h => h) (Or.inl ⟨by rfl, ?_⟩) hHeld ?_ ?_
  rotate_left
  · rintro w' ⟨s0, s1, s2⟩
    go_simp
    first | done | (with_reducible rfl)
  rotate_left
  · simp only [Act.put, List.setIfInBounds_toArray, List.set_cons_zero, List.set_cons_succ, i64_w, i32_w]
    rfl
  refine take_ (i := 7) (N := some 207) (v := ?_) (a' := ?_) #[true, true, true, true, true, true, true, true, true, false, false, false, true, false, false, false, false, false] rfl rfl (take_ofW HT_.out HW_.out (by kernel_rfl)) (fun _ _ _ h => h) (Or.inl ⟨by rfl, ?_⟩) hHeld ?_ ?_
  rotate_left
  · rintro w' ⟨s0, s1, s2⟩
    go_simp
    first | done | (with_reducible rfl)
  rotate_left
  · simp only [Act.put, List.setIfInBounds_toArray, List.set_cons_zero, List.set_cons_succ, i64_w, i32_w]
    rfl
  refine take_ (i := 9) (N := some 209) (v := ?_) (a' := ?_) #[true, true, true, true, true, true, true, true, true, true, false, false, true, false, false, false, false, false] rfl rfl (take_ofW HT_.out HW_.out (by kernel_rfl)) (fun _ _ _ h => h) (Or.inl ⟨by rfl, ?_⟩) hHeld ?_ ?_
  rotate_left
  · rintro w' ⟨s0, s1, s2⟩
    go_simp
    first | done | (with_reducible rfl)
  rotate_left
  · simp only [Act.put, List.setIfInBounds_toArray, List.set_cons_zero, List.set_cons_succ, i64_w, i32_w]
    rfl
  refine pure_ (i := 10) (N := some 210) (v := ?_) (a' := ?_) #[true, true, true, true, true, true, true, true, true, true, true, false, true, false, false, false, false, false] rfl rfl (any_of HT_.out (by kernel_rfl)) (fun _ _ _ h => h) (Or.inl ⟨by rfl, ?_⟩) ?_ ?_
  rotate_left
  · intro w'
    go_simp
    first | done | (with_reducible rfl)
  rotate_left
  · simp only [Act.put, List.setIfInBounds_toArray, List.set_cons_zero, List.set_cons_succ, i64_w, i32_w]
    rfl
  refine take_ (i := 11) (N := some 211) (v := ?_) (a' := ?_) #[true, true, true, true, true, true, true, true, true, true, true, true, true, false, false, false, false, false] rfl rfl (take_ofW HT_.out HW_.out (by kernel_rfl)) (fun _ _ _ h => h) (Or.inl ⟨by rfl, ?_⟩) hHeld ?_ ?_
  rotate_left
  · rintro w' ⟨s0, s1, s2⟩
    go_simp
    first | done | (with_reducible rfl)
  rotate_left
  · simp only [Act.put, List.setIfInBounds_toArray, List.set_cons_zero, List.set_cons_succ, i64_w, i32_w]
    rfl
  refine pure_ (i := 13) (N := some 213) (v := ?_) (a' := ?_) #[true, true, true, true, true, true, true, true, true, true, true, true, true, true, false, false, false, false] rfl rfl (any_of HT_.out (by kernel_rfl)) (fun _ _ _ h => h) (Or.inl ⟨by rfl, ?_⟩) ?_ ?_
  rotate_left
  · intro w'
    go_simp
    first | done | (with_reducible rfl)
  rotate_left
  · simp only [Act.put, List.setIfInBounds_toArray, List.set_cons_zero, List.set_cons_succ, i64_w, i32_w]
    rfl
  refine one_ (i := 14) (N := some 214) #[true, true, true, true, true, true, true, true, true, true, true, true, true, true, true, false, false, false] rfl rfl (one_of HT_.out (by kernel_rfl)) (by decide) (fun K hK => ?_)
  refine goes_ Tryd.func25 (by kernel_rfl) rfl #[.slice (some ap) s.pts.length pC, .int .i64 (j : Nat), .int .i64 (orV (rd s.pts ((j : Nat) : Int)) 2)] (by rfl) rfl rfl (by (try simp only [List.map_toArray, List.map_cons, List.map_nil]); first | done | rfl) ?_
  refine (bootchainref17_with.calls (some ap) pC s.pts ((j : Nat) : Int) (orV (rd s.pts ((j : Nat) : Int)) 2) (s.pts.set j (orV (rd s.pts ((j : Nat) : Int)) 2)) w9 (RD.C (HP.out.below HF9.out.b)).2.2 (RD.C HP.out).2.1 (with_f s.pts j _ hj hpl)).mono ?_
  rintro e w10 ⟨v8, rfl, ho8, hb8⟩
  have HO8 := Lib.hid (Kd.R_lower ho8 HF9.out.b.size)
  obtain ⟨A8, n8, e8, _, _⟩ := Kd.R_reads ho8
  rw [List.length_set] at e8
  subst e8
  have HF10 := Lib.hid (HF9.out.below hb8)
  have hh1 := (hb8.cell (World.block_lt_of_cell? w9 _ hHeld.1)).trans hHeld.1
  have hh2 := (hb8.cell (World.block_lt_of_cell? w9 _ hHeld.2.1)).trans hHeld.2.1
  have hh3 := (hb8.cell (World.block_lt_of_cell? w9 _ hHeld.2.2)).trans hHeld.2.2
  clear ho8 hb8
  refine ⟨_, rfl, ?_⟩
  refine hK.out _ _ ⟨hh1, hh2, hh3⟩ (fun hHeld => ?_)
  clear hK K
  refine norm_ (a' := ?_) ?_ ?_
  rotate_left
  · show Act.put _ (some 214) _ = _
    simp only [Act.put, List.setIfInBounds_toArray, List.set_cons_zero, List.set_cons_succ, i64_w, i32_w]
    rfl
  clear hh1 hh2 hh3
  obtain ⟨c0, c1, c2, c3, c4, c5, c6, c7, c8, c9⟩ := HF10.out.so
  obtain ⟨y0, y1, y2, y3, y4, y5, y6, y7, y8, y9⟩ := HF10.out.sz
  obtain ⟨k0, k1, k2⟩ := HF10.out.sk
  obtain ⟨i0, i1, i2⟩ := HF10.out.si
  have fo := HF10.out.fo
  have fz := HF10.out.fz
  refine pure_ (i := 15) (N := some 215) (v := ?_) (a' := ?_) #[true, true, true, true, true, true, true, true, true, true, true, true, true, true, true, true, false, false] rfl rfl (any_of HT_.out (by kernel_rfl)) (fun _ _ _ h => h) (Or.inl ⟨by rfl, ?_⟩) ?_ ?_
  rotate_left
  · intro w'
    go_simp
    first | done | (with_reducible rfl)
  rotate_left
  · simp only [Act.put, List.setIfInBounds_toArray, List.set_cons_zero, List.set_cons_succ, i64_w, i32_w]
    rfl
  refine pure_ (i := 16) (N := some 216) (v := ?_) (a' := ?_) #[true, true, true, true, true, true, true, true, true, true, true, true, true, true, true, true, true, false] rfl rfl (any_of HT_.out (by kernel_rfl)) (fun _ _ _ h => h) (Or.inl ⟨by rfl, ?_⟩) ?_ ?_
  rotate_left
  · intro w'
    go_simp
    first | done | (with_reducible rfl)
  rotate_left
  · simp only [Act.put, List.setIfInBounds_toArray, List.set_cons_zero, List.set_cons_succ, i64_w, i32_w]
    rfl
  refine last_ (i := 17) (N := none) #[true, true, true, true, true, true, true, true, true, true, true, true, true, true, true, true, true, true] rfl rfl (one_of HT_.out (by kernel_rfl)) (by decide) (fun K hK => ?_)
  refine skip_ (w1 := ?_) (by rfl) rfl ?_ ?_
  rotate_left
  · go_simp
    rfl
  refine hK.out _ _ ?_
  clear hK K
  refine done_ (done_of HT_.out (by kernel_rfl)) ?_
  clear hHeld
  go_wp2_with fail
  have hrow := own_far (j := 3) (u := .slice A8 s.pts.length n8) (Kd.own_of_R HO8.out) (own_ne HF10.out.o (by decide) (Kd.own_of_R HO8.out))
  exact ok_end { s with pc := a, steps := s.steps + 1, stack := xs, br := s.br + 1, pts := s.pts.set j (orV (rd s.pts ((j : Nat) : Int)) 2), done := false } (HF10.out.set 3 (.slice A8 s.pts.length n8) (st' := #[.int .i64 a, .slice vA s.vars.length vC, .slice (some adS) xs.length sC, .slice A8 s.pts.length n8, .slice nA s.notes.length nC, .int .i64 s.fin, .int .i64 (s.steps + 1), .int .i64 (s.br + 1), .bool false, .int .i64 0]) rfl) (.inl HV.out) (.inl HSR.out) (.inr hrow) (.inl HN.out) _ rfl
set_option maxRecDepth 100000 in
set_option maxHeartbeats 4000000 in
theorem rstep_ok12_00 {w : World} (cA : Option Addr) (cC : Nat) (ins : List S42) (V P : Int) (s : St) (vA sA pA nA : Option Addr) (vC sC pC nC : Nat) (gA : Option Addr) (gC : Nat) (gl : List Int) (xs : List Int) (x : Int) (hr0 : Kd.C k42 w cA ins.length ins) (hv : RD w (.slice vA s.vars.length vC) s.vars) (hs : RD w (.slice sA (xs.length + 1) sC) (xs ++ [x])) (hp : RD w (.slice pA s.pts.length pC) s.pts) (hn : RD w (.slice nA s.notes.length nC) s.notes) (h3 : s.steps < 3000) (h30 : 0 ≤ s.steps) (h400 : xs.length ≤ 400) (n : Nat) (hnL : n < ins.length) (hnB : n ≤ 9000000000000000000) (a : Int) (j : Nat) (hj : j < s.pts.length) (hop : insF ins n = (12, a, ((j : Nat) : Int))) (hpl : s.pts.length ≤ 400) (hP : (s.pts.length : Int) = P) (hb0 : 0 ≤ s.br) (hb1 : s.br ≤ 3000) (hg2 : gl.length ≤ 4611686018427387904) (hG : Kd.C (Kd.int .i64) w gA gl.length gl) (ht : (x != 0) = false) (hin : (gl.any fun y => s.br == y) = false) :
    Calls Tryd.prog 19 #[.agg #[.slice cA ins.length cC, .int .i64 V, .int .i64 P], .agg (stC (n : Nat) (.slice vA s.vars.length vC) (.slice sA (xs.length + 1) sC) (.slice pA s.pts.length pC) (.slice nA s.notes.length nC) s.fin s.steps s.br false 0), .slice gA gl.length gC] w (RLeft w (.ok { s with pc := a, steps := s.steps + 1, stack := xs, br := s.br + 1, pts := s.pts.set j (orV (rd s.pts ((j : Nat) : Int)) 2), done := false })) := by
  have HOP := Lib.hid hop
  clear hop
  have hcap := (RD.C hs).2.1
  have hja : decide (((j : Nat) : Int) < 0) = false := decide_eq_false (by omega)
  have hjb : decide (P ≤ ((j : Nat) : Int)) = false := decide_eq_false (by omega)
  have HP_ := Lib.hid hP
  have HG := Lib.hid hG
  have HIN := Lib.hid hin
  clear hP hG hin
  have hd : decide (3000 ≤ s.steps) = false := decide_eq_false (by omega)
  have hd1 : decide ((n : Int) < 0) = false := decide_eq_false (by omega)
  have hd2 : decide (ins.length ≤ n) = false := decide_eq_false (by omega)
  have HV := Lib.hid hv
  have HS := Lib.hid hs
  have HP := Lib.hid hp
  have HN := Lib.hid hn
  have HR0 := Lib.hid hr0
  have HPRE := Lib.hid (pre_world w (.cells #[.slice cA ins.length cC, .int .i64 V, .int .i64 P] 24) (.cells #[.int .i64 (n : Nat), .slice vA s.vars.length vC, .slice sA (xs.length + 1) sC, .slice pA s.pts.length pC, .slice nA s.notes.length nC, .int .i64 s.fin, .int .i64 s.steps, .int .i64 s.br, .bool false, .int .i64 0] 55) (.cells #[.int .i64 0, .slice none 0 0, .slice none 0 0, .slice none 0 0, .slice none 0 0, .int .i64 0, .int .i64 0, .int .i64 0, .bool false, .int .i64 0] 55))
  clear hv hs hp hn hr0
  go_enter Tryd.func19, Tryd.ntmps19
  go_upto_region 1 with fail
  obtain ⟨ho, hz, hc, hs3, hB⟩ := HPRE.out
  generalize hw3 : ((w.alloc (.cells #[.slice cA ins.length cC, .int .i64 V, .int .i64 P] 24)).alloc (.cells #[.int .i64 (n : Nat), .slice vA s.vars.length vC, .slice sA (xs.length + 1) sC, .slice pA s.pts.length pC, .slice nA s.notes.length nC, .int .i64 s.fin, .int .i64 s.steps, .int .i64 s.br, .bool false, .int .i64 0] 55)).alloc (.cells #[.int .i64 0, .slice none 0 0, .slice none 0 0, .slice none 0 0, .slice none 0 0, .int .i64 0, .int .i64 0, .int .i64 0, .bool false, .int .i64 0] 55) = w3 at ho hz hc hs3 hB ⊢
  clear hw3 HPRE
  have c0 : w3.cell? ⟨w.heap.size + 1, 0, none⟩ = some (.int .i64 (n : Nat)) := (blk_cell ho 0).trans rfl
  have c1 : w3.cell? ⟨w.heap.size + 1, 1, none⟩ = some (.slice vA s.vars.length vC) := (blk_cell ho 1).trans rfl
  have c2 : w3.cell? ⟨w.heap.size + 1, 2, none⟩ = some (.slice sA (xs.length + 1) sC) := (blk_cell ho 2).trans rfl
  have c3 : w3.cell? ⟨w.heap.size + 1, 3, none⟩ = some (.slice pA s.pts.length pC) := (blk_cell ho 3).trans rfl
  have c4 : w3.cell? ⟨w.heap.size + 1, 4, none⟩ = some (.slice nA s.notes.length nC) := (blk_cell ho 4).trans rfl
  have c5 : w3.cell? ⟨w.heap.size + 1, 5, none⟩ = some (.int .i64 s.fin) := (blk_cell ho 5).trans rfl
  have c6 : w3.cell? ⟨w.heap.size + 1, 6, none⟩ = some (.int .i64 s.steps) := (blk_cell ho 6).trans rfl
  have c7 : w3.cell? ⟨w.heap.size + 1, 7, none⟩ = some (.int .i64 s.br) := (blk_cell ho 7).trans rfl
  have c8 : w3.cell? ⟨w.heap.size + 1, 8, none⟩ = some (.bool false) := (blk_cell ho 8).trans rfl
  have c9 : w3.cell? ⟨w.heap.size + 1, 9, none⟩ = some (.int .i64 0) := (blk_cell ho 9).trans rfl
  have y0 : w3.cell? ⟨w.heap.size + 1 + 1, 0, none⟩ = some (.int .i64 0) := (blk_cell hz 0).trans rfl
  have y1 : w3.cell? ⟨w.heap.size + 1 + 1, 1, none⟩ = some (.slice none 0 0) := (blk_cell hz 1).trans rfl
  have y2 : w3.cell? ⟨w.heap.size + 1 + 1, 2, none⟩ = some (.slice none 0 0) := (blk_cell hz 2).trans rfl
  have y3 : w3.cell? ⟨w.heap.size + 1 + 1, 3, none⟩ = some (.slice none 0 0) := (blk_cell hz 3).trans rfl
  have y4 : w3.cell? ⟨w.heap.size + 1 + 1, 4, none⟩ = some (.slice none 0 0) := (blk_cell hz 4).trans rfl
  have y5 : w3.cell? ⟨w.heap.size + 1 + 1, 5, none⟩ = some (.int .i64 0) := (blk_cell hz 5).trans rfl
  have y6 : w3.cell? ⟨w.heap.size + 1 + 1, 6, none⟩ = some (.int .i64 0) := (blk_cell hz 6).trans rfl
  have y7 : w3.cell? ⟨w.heap.size + 1 + 1, 7, none⟩ = some (.int .i64 0) := (blk_cell hz 7).trans rfl
  have y8 : w3.cell? ⟨w.heap.size + 1 + 1, 8, none⟩ = some (.bool false) := (blk_cell hz 8).trans rfl
  have y9 : w3.cell? ⟨w.heap.size + 1 + 1, 9, none⟩ = some (.int .i64 0) := (blk_cell hz 9).trans rfl
  have k0 : w3.cell? ⟨w.heap.size, 0, none⟩ = some (.slice cA ins.length cC) := (blk_cell hc 0).trans rfl
  have k1 : w3.cell? ⟨w.heap.size, 1, none⟩ = some (.int .i64 V) := (blk_cell hc 1).trans rfl
  have k2 : w3.cell? ⟨w.heap.size, 2, none⟩ = some (.int .i64 P) := (blk_cell hc 2).trans rfl
  have fo := blk_frozen ho
  have fz := blk_frozen hz
  have HO := Lib.hid ho
  have HZ := Lib.hid hz
  have HCD := Lib.hid hc
  have HB := Lib.hid hB
  have HSZ := Lib.hid (show w.heap.size + 3 ≤ w3.heap.size by omega)
  clear ho hz hc hB hs3
  obtain ⟨ad, hcA, hi0, hi1, hi2⟩ := at_T42 (Kd.C_below HR0.out HB.out) (n : Int) (by omega) (by omega)
  rw [Int.toNat_natCast] at hi0 hi1 hi2
  subst hcA
  have ei0 : w3.cell? (ad.add (n * 3)) = some (.int .i64 12) := hi0.trans (by rw [show (rd_T42 ins n).f0 = 12 from congrArg (·.1) HOP.out])
  have ei1 : w3.cell? ⟨(ad.add (n * 3)).block, (ad.add (n * 3)).off + 1, none⟩ = some (.int .i64 a) := hi1.trans (by rw [show (rd_T42 ins n).f1 = a from congrArg (·.2.1) HOP.out])
  have ei2 : w3.cell? ⟨(ad.add (n * 3)).block, (ad.add (n * 3)).off + 2, none⟩ = some (.int .i64 (j : Nat)) := hi2.trans (by rw [show (rd_T42 ins n).f2 = (j : Nat) from congrArg (·.2.2) HOP.out])
  clear hi0 hi1 hi2
  go_wp2_with fail
  refine (pops_12 _).mono ?_
  rintro e w' ⟨rfl, rfl⟩
  have hgl : w.heap.size + 3 ≤ w3.heap.size := HSZ.out
  have hF4 : Fr w (w3.alloc (.cells #[.int .i64 12, .int .i64 a, .int .i64 (j : Nat)] 42)) w3.heap.size #[.slice (some ad) ins.length cC, .int .i64 V, .int .i64 P] #[.int .i64 (n : Nat), .slice vA s.vars.length vC, .slice sA (xs.length + 1) sC, .slice pA s.pts.length pC, .slice nA s.notes.length nC, .int .i64 s.fin, .int .i64 s.steps, .int .i64 s.br, .bool false, .int .i64 0] #[.int .i64 12, .int .i64 a, .int .i64 (j : Nat)] :=
    ⟨(Below.heap_alloc w3 _ _ (blk_lt HO.out)).trans HO.out, (Below.heap_alloc w3 _ _ (blk_lt HZ.out)).trans HZ.out, (Below.heap_alloc w3 _ _ (blk_lt HCD.out)).trans HCD.out, heap_alloc_new w3 _, HB.out.alloc HB.out.size _, by omega, by omega, hgl⟩
  have HF4 := Lib.hid hF4
  clear c0 y0 c1 y1 c2 y2 c3 y3 c4 y4 c5 y5 c6 y6 c7 y7 c8 y8 c9 y9 k0 k1 k2 fo fz ei0 ei1 ei2 hF4 hgl HSZ HO HZ HCD HB
  generalize w3.heap.size = gi at HF4 ⊢
  generalize w3.alloc (.cells #[.int .i64 12, .int .i64 a, .int .i64 (j : Nat)] 42) = w4 at HF4 ⊢
  obtain ⟨c0, c1, c2, c3, c4, c5, c6, c7, c8, c9⟩ := HF4.out.so
  obtain ⟨y0, y1, y2, y3, y4, y5, y6, y7, y8, y9⟩ := HF4.out.sz
  obtain ⟨k0, k1, k2⟩ := HF4.out.sk
  obtain ⟨i0, i1, i2⟩ := HF4.out.si
  have fo := HF4.out.fo
  have fz := HF4.out.fz
  obtain ⟨hln, hlc, hCs⟩ := RD.C (HS.out.below HF4.out.b)
  obtain ⟨adS, hsA, hx1⟩ := Kd.at_int hCs (xs.length : Int) (by omega) (by omega)
  subst hsA
  rw [Int.toNat_natCast] at hx1
  have kx : w4.cell? (adS.add xs.length) = some (.int .i64 x) := hx1.trans (by rw [rd_last1])
  clear hx1 hln hCs
  go_upto_region 27 with fail
  have HF7 := Lib.hid (((HF4.out.set 2 (.slice (some adS) xs.length sC) (st' := #[.int .i64 (n : Nat), .slice vA s.vars.length vC, .slice (some adS) xs.length sC, .slice pA s.pts.length pC, .slice nA s.notes.length nC, .int .i64 s.fin, .int .i64 s.steps, .int .i64 s.br, .bool false, .int .i64 0]) rfl).set 0 (.int .i64 ((n : Int) + 1)) (st' := #[.int .i64 ((n : Int) + 1), .slice vA s.vars.length vC, .slice (some adS) xs.length sC, .slice pA s.pts.length pC, .slice nA s.notes.length nC, .int .i64 s.fin, .int .i64 s.steps, .int .i64 s.br, .bool false, .int .i64 0]) rfl).set 6 (.int .i64 (s.steps + 1)) (st' := #[.int .i64 ((n : Int) + 1), .slice vA s.vars.length vC, .slice (some adS) xs.length sC, .slice pA s.pts.length pC, .slice nA s.notes.length nC, .int .i64 s.fin, .int .i64 (s.steps + 1), .int .i64 s.br, .bool false, .int .i64 0]) rfl)
  clear c0 y0 c1 y1 c2 y2 c3 y3 c4 y4 c5 y5 c6 y6 c7 y7 c8 y8 c9 y9 k0 k1 k2 i0 i1 i2 fo fz kx
  generalize ((w4.setCell ⟨w.heap.size + 1, 2, none⟩ (.slice (some adS) xs.length sC)).setCell ⟨w.heap.size + 1, 0, none⟩ (.int .i64 ((n : Int) + 1))).setCell ⟨w.heap.size + 1, 6, none⟩ (.int .i64 (s.steps + 1)) = w7 at HF7 ⊢
  have HSR := Lib.hid (show RD w (.slice (some adS) xs.length sC) xs from by have h := HS.out.take xs.length (by omega); rwa [List.take_left' rfl] at h)
  obtain ⟨c0, c1, c2, c3, c4, c5, c6, c7, c8, c9⟩ := HF7.out.so
  obtain ⟨y0, y1, y2, y3, y4, y5, y6, y7, y8, y9⟩ := HF7.out.sz
  obtain ⟨k0, k1, k2⟩ := HF7.out.sk
  obtain ⟨i0, i1, i2⟩ := HF7.out.si
  have fo := HF7.out.fo
  have fz := HF7.out.fz
  clear HF4
  obtain ⟨_, _, hCp⟩ := RD.C (HP.out.below HF7.out.b)
  obtain ⟨ap, hpA, _⟩ := Kd.at_int hCp ((j : Nat) : Int) (by omega) (by omega)
  subst hpA
  clear hCp
  go_upto_region 54 with (go_at_call 28; refine (rin_any gA _ gC gl s.br _ rfl hg2 (Kd.C_below HG.out HF7.out.b)).mono ?_; rintro e w' ⟨rfl, rfl⟩; rw [HIN.out])
  have HF8 := Lib.hid ((HF7.out.set 7 (.int .i64 (s.br + 1)) (st' := #[.int .i64 ((n : Int) + 1), .slice vA s.vars.length vC, .slice (some adS) xs.length sC, .slice (some ap) s.pts.length pC, .slice nA s.notes.length nC, .int .i64 s.fin, .int .i64 (s.steps + 1), .int .i64 (s.br + 1), .bool false, .int .i64 0]) rfl).set 0 (.int .i64 a) (st' := #[.int .i64 a, .slice vA s.vars.length vC, .slice (some adS) xs.length sC, .slice (some ap) s.pts.length pC, .slice nA s.notes.length nC, .int .i64 s.fin, .int .i64 (s.steps + 1), .int .i64 (s.br + 1), .bool false, .int .i64 0]) rfl)
  clear c0 y0 c1 y1 c2 y2 c3 y3 c4 y4 c5 y5 c6 y6 c7 y7 c8 y8 c9 y9 k0 k1 k2 i0 i1 i2 fo fz
  generalize (w7.setCell ⟨w.heap.size + 1, 7, none⟩ (.int .i64 (s.br + 1))).setCell ⟨w.heap.size + 1, 0, none⟩ (.int .i64 a) = w8 at HF8 ⊢
  obtain ⟨c0, c1, c2, c3, c4, c5, c6, c7, c8, c9⟩ := HF8.out.so
  obtain ⟨y0, y1, y2, y3, y4, y5, y6, y7, y8, y9⟩ := HF8.out.sz
  obtain ⟨k0, k1, k2⟩ := HF8.out.sk
  obtain ⟨i0, i1, i2⟩ := HF8.out.si
  have fo := HF8.out.fo
  have fz := HF8.out.fz
  have hxp : w8.cell? (ap.add j) = some (.int .i64 (rd s.pts ((j : Nat) : Int))) := by
    obtain ⟨_, _, hCp⟩ := RD.C (HP.out.below HF8.out.b)
    obtain ⟨ap', hpA, hx⟩ := Kd.at_int hCp ((j : Nat) : Int) (by omega) (by omega)
    injection hpA with hpA
    subst hpA
    rw [Int.toNat_natCast] at hx
    exact hx
  refine start_ (n := 18) (S := fun w' => w'.cell? ⟨w.heap.size + 1, 3, none⟩ = some (.slice (some ap) s.pts.length pC) ∧ w'.cell? ⟨gi, 2, none⟩ = some (.int .i64 (j : Nat)) ∧ w'.cell? (ap.add j) = some (.int .i64 (rd s.pts ((j : Nat) : Int)))) (ds := [17]) #[false, false, false, false, false, false, false, false, false, false, false, false, false, false, false, false, false, false] (by kernel_rfl) rfl rfl ⟨(World.cell?_drew _ _).trans c3, (World.cell?_drew _ _).trans i2, (World.cell?_drew _ _).trans hxp⟩ (fun hHeld => ?_)
  refine with_tabW rstep19.tab54 rstep19.bits54 (fun HT_ HW_ => ?_)
  have HF9 := Lib.hid HF8.out.drew
  clear c0 y0 c1 y1 c2 y2 c3 y3 c4 y4 c5 y5 c6 y6 c7 y7 c8 y8 c9 y9 k0 k1 k2 i0 i1 i2 fo fz hxp
  generalize w8.drew = w9 at HF9 hHeld ⊢
  refine pure_ (i := 0) (N := some 200) (v := ?_) (a' := ?_) #[true, false, false, false, false, false, false, false, false, false, false, false, false, false, false, false, false, false] rfl rfl (any_of HT_.out (by kernel_rfl)) (fun _ _ _ h => h) (Or.inl ⟨by rfl, ?_⟩) ?_ ?_
  rotate_left
  · intro w'
    go_simp
    first | done | (with_reducible rfl)
  rotate_left
  · simp only [Act.put, List.setIfInBounds_toArray, List.set_cons_zero, List.set_cons_succ, i64_w, i32_w]
    rfl
  refine pure_ (i := 1) (N := some 201) (v := ?_) (a' := ?_) #[true, true, false, false, false, false, false, false, false, false, false, false, false, false, false, false, false, false] rfl rfl (any_of HT_.out (by kernel_rfl)) (fun _ _ _ h => h) (Or.inl ⟨by rfl, ?_⟩) ?_ ?_
  rotate_left
  · intro w'
    go_simp
    first | done | (with_reducible rfl)
  rotate_left
  · simp only [Act.put, List.setIfInBounds_toArray, List.set_cons_zero, List.set_cons_succ, i64_w, i32_w]
    rfl
  refine pure_ (i := 3) (N := some 203) (v := ?_) (a' := ?_) #[true, true, false, true, false, false, false, false, false, false, false, false, false, false, false, false, false, false] rfl rfl (any_of HT_.out (by kernel_rfl)) (fun _ _ _ h => h) (Or.inl ⟨by rfl, ?_⟩) ?_ ?_
  rotate_left
  · intro w'
    go_simp
    first | done | (with_reducible rfl)
  rotate_left
  · simp only [Act.put, List.setIfInBounds_toArray, List.set_cons_zero, List.set_cons_succ, i64_w, i32_w]
    rfl
  refine pure_ (i := 5) (N := some 205) (v := ?_) (a' := ?_) #[true, true, false, true, false, true, false, false, false, false, false, false, false, false, false, false, false, false] rfl rfl (any_of HT_.out (by kernel_rfl)) (fun _ _ _ h => h) (Or.inl ⟨by rfl, ?_⟩) ?_ ?_
  rotate_left
  · intro w'
    go_simp
    first | done | (with_reducible rfl)
  rotate_left
  · simp only [Act.put, List.setIfInBounds_toArray, List.set_cons_zero, List.set_cons_succ, i64_w, i32_w]
    rfl
  refine pure_ (i := 6) (N := some 206) (v := ?_) (a' := ?_) #[true, true, false, true, false, true, true, false, false, false, false, false, false, false, false, false, false, false] rfl rfl (any_of HT_.out (by kernel_rfl)) (fun _ _ _ h => h) (Or.inl ⟨by rfl, ?_⟩) ?_ ?_
  rotate_left
  · intro w'
    go_simp
    first | done | (with_reducible rfl)
  rotate_left
  · simp only [Act.put, List.setIfInBounds_toArray, List.set_cons_zero, List.set_cons_succ, i64_w, i32_w]
    rfl
  refine pure_ (i := 8) (N := some 208) (v := ?_) (a' := ?_) #[true, true, false, true, false, true, true, false, true, false, false, false, false, false, false, false, false, false] rfl rfl (any_of HT_.out (by kernel_rfl)) (fun _ _ _ h => h) (Or.inl ⟨by rfl, ?_⟩) ?_ ?_
  rotate_left
  · intro w'
    go_simp
    first | done | (with_reducible rfl)
  rotate_left
  · simp only [Act.put, List.setIfInBounds_toArray, List.set_cons_zero, List.set_cons_succ, i64_w, i32_w]
    rfl
  refine pure_ (i := 12) (N := some 212) (v := ?_) (a' := ?_) #[true, true, false, true, false, true, true, false, true, false, false, false, true, false, false, false, false, false] rfl rfl (any_of HT_.out (by kernel_rfl)) (fun _ _ _ h => h) (Or.inl ⟨by rfl, ?_⟩) ?_ ?_
  rotate_left
  · intro w'
    go_simp
    first | done | (with_reducible rfl)
  rotate_left
  · simp only [Act.put, List.setIfInBounds_toArray, List.set_cons_zero, List.set_cons_succ, i64_w, i32_w]
    rfl
  refine take_ (i := 2) (N := some 202) (v := ?_) (a' := ?_) #[true, true, true, true, false, true, true, false, true, false, false, false, true, false, false, false, false, false] rfl rfl (take_ofW HT_.out HW_.out (by kernel_rfl)) (fun _ _ _ h => h) (Or.inl ⟨by rfl, ?_⟩) hHeld ?_ ?_
  rotate_left
  · rintro w' ⟨s0, s1, s2⟩
    go_simp
    first | done | (with_reducible rfl)
  rotate_left
  · simp only [Act.put, List.setIfInBounds_toArray, List.set_cons_zero, List.set_cons_succ, i64_w, i32_w]
    rfl
  refine take_ (i := 4) (N := some 204) (v := ?_) (a' := ?_) #[true, true, true, true, true, true, true, false, true, false, false, false, true, false, false, false, false, false] rfl rfl (take_ofW HT_.out HW_.out (by kernel_rfl)) (fun _ _ _ h => h) (Or.inl ⟨by rfl, ?_⟩) hHeld ?_ ?_
  rotate_left
  · rintro w' ⟨s0, s1, s2⟩
    go_simp
    first | done | (with_reducible rfl)
  rotate_left
  · simp only [Act.put, List.setIfInBounds_toArray, List.set_cons_zero, List.set_cons_succ, i64_w, i32_w]
    rfl
  refine take_ (i := 7) (N := some 207) (v := ?_) (a' := ?_) #[true, true, true, true, true, true, true, true, true, false, false, false, true, false, false, false, false, false] rfl rfl (take_ofW HT_.out HW_.out (by kernel_rfl)) (fun _ _ _ h => h) (Or.inl ⟨by rfl, ?_⟩) hHeld ?_ ?_
  rotate_left
  · rintro w' ⟨s0, s1, s2⟩
    go_simp
    first | done | (with_reducible rfl)
  rotate_left
  · simp only [Act.put, List.setIfInBounds_toArray, List.set_cons_zero, List.set_cons_succ, i64_w, i32_w]
    rfl
  refine take_ (i := 9) (N := some 209) (v := ?_) (a' := ?_) #[true, true, true, true, true, true, true, true, true, true, false, false, true, false, false, false, false, false] rfl rfl (take_ofW HT_.out HW_.out (by kernel_rfl)) (fun _ _ _ h => h) (Or.inl ⟨by rfl, ?_⟩) hHeld ?_ ?_
  rotate_left
  · rintro w' ⟨s0, s1, s2⟩
    go_simp
    first | done | (with_reducible rfl)
  rotate_left
  · simp only [Act.put, List.setIfInBounds_toArray, List.set_cons_zero, List.set_cons_succ, i64_w, i32_w]
    rfl
  refine pure_ (i := 10) (N := some 210) (v := ?_) (a' := ?_) #[true, true, true, true, true, true, true, true, true, true, true, false, true, false, false, false, false, false] rfl rfl (any_of HT_.out (by kernel_rfl)) (fun _ _ _ h => h) (Or.inl ⟨by rfl, ?_⟩) ?_ ?_
  rotate_left
  · intro w'
    go_simp
    first | done | (with_reducible rfl)
  rotate_left
  · simp only [Act.put, List.setIfInBounds_toArray, List.set_cons_zero, List.set_cons_succ, i64_w, i32_w]
    rfl
  refine take_ (i := 11) (N := some 211) (v := ?_) (a' := ?_) #[true, true, true, true, true, true, true, true, true, true, true, true, true, false, false, false, false, false] rfl rfl (take_ofW HT_.out HW_.out (by kernel_rfl)) (fun _ _ _ h => h) (Or.inl ⟨by rfl, ?_⟩) hHeld ?_ ?_
  rotate_left
  · rintro w' ⟨s0, s1, s2⟩
    go_simp
    first | done | (with_reducible rfl)
  rotate_left
  · simp only [Act.put, List.setIfInBounds_toArray, List.set_cons_zero, List.set_cons_succ, i64_w, i32_w]
    rfl
  refine pure_ (i := 13) (N := some 213) (v := ?_) (a' := ?_) #[true, true, true, true, true, true, true, true, true, true, true, true, true, true, false, false, false, false] rfl rfl (any_of HT_.out (by kernel_rfl)) (fun _ _ _ h => h) (Or.inl ⟨by rfl, ?_⟩) ?_ ?_
  rotate_left
  · intro w'
    go_simp
    first | done | (with_reducible rfl)
  rotate_left
  · simp only [Act.put, List.setIfInBounds_toArray, List.set_cons_zero, List.set_cons_succ, i64_w, i32_w]
    rfl
  refine one_ (i := 14) (N := some 214) #[true, true, true, true, true, true, true, true, true, true, true, true, true, true, true, false, false, false] rfl rfl (one_of HT_.out (by kernel_rfl)) (by decide) (fun K hK => ?_)
  refine goes_ Tryd.func25 (by kernel_rfl) rfl #[.slice (some ap) s.pts.length pC, .int .i64 (j : Nat), .int .i64 (orV (rd s.pts ((j : Nat) : Int)) 2)] (by rfl) rfl rfl (by (try simp only [List.map_toArray, List.map_cons, List.map_nil]); first | done | rfl) ?_
  refine (bootchainref17_with.calls (some ap) pC s.pts ((j : Nat) : Int) (orV (rd s.pts ((j : Nat) : Int)) 2) (s.pts.set j (orV (rd s.pts ((j : Nat) : Int)) 2)) w9 (RD.C (HP.out.below HF9.out.b)).2.2 (RD.C HP.out).2.1 (with_f s.pts j _ hj hpl)).mono ?_
  rintro e w10 ⟨v8, rfl, ho8, hb8⟩
  have HO8 := Lib.hid (Kd.R_lower ho8 HF9.out.b.size)
  obtain ⟨A8, n8, e8, _, _⟩ := Kd.R_reads ho8
  rw [List.length_set] at e8
  subst e8
  have HF10 := Lib.hid (HF9.out.below hb8)
  have hh1 := (hb8.cell (World.block_lt_of_cell? w9 _ hHeld.1)).trans hHeld.1
  have hh2 := (hb8.cell (World.block_lt_of_cell? w9 _ hHeld.2.1)).trans hHeld.2.1
  have hh3 := (hb8.cell (World.block_lt_of_cell? w9 _ hHeld.2.2)).trans hHeld.2.2
  clear ho8 hb8
  refine ⟨_, rfl, ?_⟩
  refine hK.out _ _ ⟨hh1, hh2, hh3⟩ (fun hHeld => ?_)
  clear hK K
  refine norm_ (a' := ?_) ?_ ?_
  rotate_left
  · show Act.put _ (some 214) _ = _
    simp only [Act.put, List.setIfInBounds_toArray, List.set_cons_zero, List.set_cons_succ, i64_w, i32_w]
    rfl
  clear hh1 hh2 hh3
  obtain ⟨c0, c1, c2, c3, c4, c5, c6, c7, c8, c9⟩ := HF10.out.so
  obtain ⟨y0, y1, y2, y3, y4, y5, y6, y7, y8, y9⟩ := HF10.out.sz
  obtain ⟨k0, k1, k2⟩ := HF10.out.sk
  obtain ⟨i0, i1, i2⟩ := HF10.out.si
  have fo := HF10.out.fo
  have fz := HF10.out.fz
  refine pure_ (i := 15) (N := some 215) (v := ?_) (a' := ?_) #[true, true, true, true, true, true, true, true, true, true, true, true, true, true, true, true, false, false] rfl rfl (any_of HT_.out (by kernel_rfl)) (fun _ _ _ h => h) (Or.inl ⟨by rfl, ?_⟩) ?_ ?_
  rotate_left
  · intro w'
    go_simp
    first | done | (with_reducible rfl)
  rotate_left
  · simp only [Act.put, List.setIfInBounds_toArray, List.set_cons_zero, List.set_cons_succ, i64_w, i32_w]
    rfl
  refine pure_ (i := 16) (N := some 216) (v := ?_) (a' := ?_) #[true, true, true, true, true, true, true, true, true, true, true, true, true, true, true, true, true, false] rfl rfl (any_of HT_.out (by kernel_rfl)) (fun _ _ _ h => h) (Or.inl ⟨by rfl, ?_⟩) ?_ ?_
  rotate_left
  · intro w'
    go_simp
    first | done | (with_reducible rfl)
  rotate_left
  · simp only [Act.put, List.setIfInBounds_toArray, List.set_cons_zero, List.set_cons_succ, i64_w, i32_w]
    rfl
  refine last_ (i := 17) (N := none) #[true, true, true, true, true, true, true, true, true, true, true, true, true, true, true, true, true, true] rfl rfl (one_of HT_.out (by kernel_rfl)) (by decide) (fun K hK => ?_)
  refine skip_ (w1 := ?_) (by rfl) rfl ?_ ?_
  rotate_left
  · go_simp
    rfl
  refine hK.out _ _ ?_
  clear hK K
  refine done_ (done_of HT_.out (by kernel_rfl)) ?_
  clear hHeld
  go_wp2_with fail
  have hrow := own_far (j := 3) (u := .slice A8 s.pts.length n8) (Kd.own_of_R HO8.out) (own_ne HF10.out.o (by decide) (Kd.own_of_R HO8.out))
  exact ok_end { s with pc := a, steps := s.steps + 1, stack := xs, br := s.br + 1, pts := s.pts.set j (orV (rd s.pts ((j : Nat) : Int)) 2), done := false } (HF10.out.set 3 (.slice A8 s.pts.length n8) (st' := #[.int .i64 a, .slice vA s.vars.length vC, .slice (some adS) xs.length sC, .slice A8 s.pts.length n8, .slice nA s.notes.length nC, .int .i64 s.fin, .int .i64 (s.steps + 1), .int .i64 (s.br + 1), .bool false, .int .i64 0]) rfl) (.inl HV.out) (.inl HSR.out) (.inr hrow) (.inl HN.out) _ rfl
set_option maxRecDepth 100000 in
set_option maxHeartbeats 4000000 in
theorem rstep_ok12_01 {w : World} (cA : Option Addr) (cC : Nat) (ins : List S42) (V P : Int) (s : St) (vA sA pA nA : Option Addr) (vC sC pC nC : Nat) (gA : Option Addr) (gC : Nat) (gl : List Int) (xs : List Int) (x : Int) (hr0 : Kd.C k42 w cA ins.length ins) (hv : RD w (.slice vA s.vars.length vC) s.vars) (hs : RD w (.slice sA (xs.length + 1) sC) (xs ++ [x])) (hp : RD w (.slice pA s.pts.length pC) s.pts) (hn : RD w (.slice nA s.notes.length nC) s.notes) (h3 : s.steps < 3000) (h30 : 0 ≤ s.steps) (h400 : xs.length ≤ 400) (n : Nat) (hnL : n < ins.length) (hnB : n ≤ 9000000000000000000) (a : Int) (j : Nat) (hj : j < s.pts.length) (hop : insF ins n = (12, a, ((j : Nat) : Int))) (hpl : s.pts.length ≤ 400) (hP : (s.pts.length : Int) = P) (hb0 : 0 ≤ s.br) (hb1 : s.br ≤ 3000) (hg2 : gl.length ≤ 4611686018427387904) (hG : Kd.C (Kd.int .i64) w gA gl.length gl) (ht : (x != 0) = false) (hin : (gl.any fun y => s.br == y) = true) :
    Calls Tryd.prog 19 #[.agg #[.slice cA ins.length cC, .int .i64 V, .int .i64 P], .agg (stC (n : Nat) (.slice vA s.vars.length vC) (.slice sA (xs.length + 1) sC) (.slice pA s.pts.length pC) (.slice nA s.notes.length nC) s.fin s.steps s.br false 0), .slice gA gl.length gC] w (RLeft w (.ok { s with pc := (n : Int) + 1, steps := s.steps + 1, stack := xs, br := s.br + 1, pts := s.pts.set j (orV (rd s.pts ((j : Nat) : Int)) 1), done := false })) := by
  have HOP := Lib.hid hop
  clear hop
  have hcap := (RD.C hs).2.1
  have hja : decide (((j : Nat) : Int) < 0) = false := decide_eq_false (by omega)
  have hjb : decide (P ≤ ((j : Nat) : Int)) = false := decide_eq_false (by omega)
  have HP_ := Lib.hid hP
  have HG := Lib.hid hG
  have HIN := Lib.hid hin
  clear hP hG hin
  have hd : decide (3000 ≤ s.steps) = false := decide_eq_false (by omega)
  have hd1 : decide ((n : Int) < 0) = false := decide_eq_false (by omega)
  have hd2 : decide (ins.length ≤ n) = false := decide_eq_false (by omega)
  have HV := Lib.hid hv
  have HS := Lib.hid hs
  have HP := Lib.hid hp
  have HN := Lib.hid hn
  have HR0 := Lib.hid hr0
  have HPRE := Lib.hid (pre_world w (.cells #[.slice cA ins.length cC, .int .i64 V, .int .i64 P] 24) (.cells #[.int .i64 (n : Nat), .slice vA s.vars.length vC, .slice sA (xs.length + 1) sC, .slice pA s.pts.length pC, .slice nA s.notes.length nC, .int .i64 s.fin, .int .i64 s.steps, .int .i64 s.br, .bool false, .int .i64 0] 55) (.cells #[.int .i64 0, .slice none 0 0, .slice none 0 0, .slice none 0 0, .slice none 0 0, .int .i64 0, .int .i64 0, .int .i64 0, .bool false, .int .i64 0] 55))
  clear hv hs hp hn hr0
  go_enter Tryd.func19, Tryd.ntmps19
  go_upto_region 1 with fail
  obtain ⟨ho, hz, hc, hs3, hB⟩ := HPRE.out
  generalize hw3 : ((w.alloc (.cells #[.slice cA ins.length cC, .int .i64 V, .int .i64 P] 24)).alloc (.cells #[.int .i64 (n : Nat), .slice vA s.vars.length vC, .slice sA (xs.length + 1) sC, .slice pA s.pts.length pC, .slice nA s.notes.length nC, .int .i64 s.fin, .int .i64 s.steps, .int .i64 s.br, .bool false, .int .i64 0] 55)).alloc (.cells #[.int .i64 0, .slice none 0 0, .slice none 0 0, .slice none 0 0, .slice none 0 0, .int .i64 0, .int .i64 0, .int .i64 0, .bool false, .int .i64 0] 55) = w3 at ho hz hc hs3 hB ⊢
  clear hw3 HPRE
  have c0 : w3.cell? ⟨w.heap.size + 1, 0, none⟩ = some (.int .i64 (n : Nat)) := (blk_cell ho 0).trans rfl
  have c1 : w3.cell? ⟨w.heap.size + 1, 1, none⟩ = some (.slice vA s.vars.length vC) := (blk_cell ho 1).trans rfl
  have c2 : w3.cell? ⟨w.heap.size + 1, 2, none⟩ = some (.slice sA (xs.length + 1) sC) := (blk_cell ho 2).trans rfl
  have c3 : w3.cell? ⟨w.heap.size + 1, 3, none⟩ = some (.slice pA s.pts.length pC) := (blk_cell ho 3).trans rfl
  have c4 : w3.cell? ⟨w.heap.size + 1, 4, none⟩ = some (.slice nA s.notes.length nC) := (blk_cell ho 4).trans rfl
  have c5 : w3.cell? ⟨w.heap.size + 1, 5, none⟩ = some (.int .i64 s.fin) := (blk_cell ho 5).trans rfl
  have c6 : w3.cell? ⟨w.heap.size + 1, 6, none⟩ = some (.int .i64 s.steps) := (blk_cell ho 6).trans rfl
  have c7 : w3.cell? ⟨w.heap.size + 1, 7, none⟩ = some (.int .i64 s.br) := (blk_cell ho 7).trans rfl
  have c8 : w3.cell? ⟨w.heap.size + 1, 8, none⟩ = some (.bool false) := (blk_cell ho 8).trans rfl
  have c9 : w3.cell? ⟨w.heap.size + 1, 9, none⟩ = some (.int .i64 0) := (blk_cell ho 9).trans rfl
  have y0 : w3.cell? ⟨w.heap.size + 1 + 1, 0, none⟩ = some (.int .i64 0) := (blk_cell hz 0).trans rfl
  have y1 : w3.cell? ⟨w.heap.size + 1 + 1, 1, none⟩ = some (.slice none 0 0) := (blk_cell hz 1).trans rfl
  have y2 : w3.cell? ⟨w.heap.size + 1 + 1, 2, none⟩ = some (.slice none 0 0) := (blk_cell hz 2).trans rfl
  have y3 : w3.cell? ⟨w.heap.size + 1 + 1, 3, none⟩ = some (.slice none 0 0) := (blk_cell hz 3).trans rfl
  have y4 : w3.cell? ⟨w.heap.size + 1 + 1, 4, none⟩ = some (.slice none 0 0) := (blk_cell hz 4).trans rfl
  have y5 : w3.cell? ⟨w.heap.size + 1 + 1, 5, none⟩ = some (.int .i64 0) := (blk_cell hz 5).trans rfl
  have y6 : w3.cell? ⟨w.heap.size + 1 + 1, 6, none⟩ = some (.int .i64 0) := (blk_cell hz 6).trans rfl
  have y7 : w3.cell? ⟨w.heap.size + 1 + 1, 7, none⟩ = some (.int .i64 0) := (blk_cell hz 7).trans rfl
  have y8 : w3.cell? ⟨w.heap.size + 1 + 1, 8, none⟩ = some (.bool false) := (blk_cell hz 8).trans rfl
  have y9 : w3.cell? ⟨w.heap.size + 1 + 1, 9, none⟩ = some (.int .i64 0) := (blk_cell hz 9).trans rfl
  have k0 : w3.cell? ⟨w.heap.size, 0, none⟩ = some (.slice cA ins.length cC) := (blk_cell hc 0).trans rfl
  have k1 : w3.cell? ⟨w.heap.size, 1, none⟩ = some (.int .i64 V) := (blk_cell hc 1).trans rfl
  have k2 : w3.cell? ⟨w.heap.size, 2, none⟩ = some (.int .i64 P) := (blk_cell hc 2).trans rfl
  have fo := blk_frozen ho
  have fz := blk_frozen hz
  have HO := Lib.hid ho
  have HZ := Lib.hid hz
  have HCD := Lib.hid hc
  have HB := Lib.hid hB
  have HSZ := Lib.hid (show w.heap.size + 3 ≤ w3.heap.size by omega)
  clear ho hz hc hB hs3
  obtain ⟨ad, hcA, hi0, hi1, hi2⟩ := at_T42 (Kd.C_below HR0.out HB.out) (n : Int) (by omega) (by omega)
  rw [Int.toNat_natCast] at hi0 hi1 hi2
  subst hcA
  have ei0 : w3.cell? (ad.add (n * 3)) = some (.int .i64 12) := hi0.trans (by rw [show (rd_T42 ins n).f0 = 12 from congrArg (·.1) HOP.out])
  have ei1 : w3.cell? ⟨(ad.add (n * 3)).block, (ad.add (n * 3)).off + 1, none⟩ = some (.int .i64 a) := hi1.trans (by rw [show (rd_T42 ins n).f1 = a from congrArg (·.2.1) HOP.out])
  have ei2 : w3.cell? ⟨(ad.add (n * 3)).block, (ad.add (n * 3)).off + 2, none⟩ = some (.int .i64 (j : Nat)) := hi2.trans (by rw [show (rd_T42 ins n).f2 = (j : Nat) from congrArg (·.2.2) HOP.out])
  clear hi0 hi1 hi2
  go_wp2_with fail
  refine (pops_12 _).mono ?_
  rintro e w' ⟨rfl, rfl⟩
  have hgl : w.heap.size + 3 ≤ w3.heap.size := HSZ.out
  have hF4 : Fr w (w3.alloc (.cells #[.int .i64 12, .int .i64 a, .int .i64 (j : Nat)] 42)) w3.heap.size #[.slice (some ad) ins.length cC, .int .i64 V, .int .i64 P] #[.int .i64 (n : Nat), .slice vA s.vars.length vC, .slice sA (xs.length + 1) sC, .slice pA s.pts.length pC, .slice nA s.notes.length nC, .int .i64 s.fin, .int .i64 s.steps, .int .i64 s.br, .bool false, .int .i64 0] #[.int .i64 12, .int .i64 a, .int .i64 (j : Nat)] :=
    ⟨(Below.heap_alloc w3 _ _ (blk_lt HO.out)).trans HO.out, (Below.heap_alloc w3 _ _ (blk_lt HZ.out)).trans HZ.out, (Below.heap_alloc w3 _ _ (blk_lt HCD.out)).trans HCD.out, heap_alloc_new w3 _, HB.out.alloc HB.out.size _, by omega, by omega, hgl⟩
  have HF4 := Lib.hid hF4
  clear c0 y0 c1 y1 c2 y2 c3 y3 c4 y4 c5 y5 c6 y6 c7 y7 c8 y8 c9 y9 k0 k1 k2 fo fz ei0 ei1 ei2 hF4 hgl HSZ HO HZ HCD HB
  generalize w3.heap.size = gi at HF4 ⊢
  generalize w3.alloc (.cells #[.int .i64 12, .int .i64 a, .int .i64 (j : Nat)] 42) = w4 at HF4 ⊢
  obtain ⟨c0, c1, c2, c3, c4, c5, c6, c7, c8, c9⟩ := HF4.out.so
  obtain ⟨y0, y1, y2, y3, y4, y5, y6, y7, y8, y9⟩ := HF4.out.sz
  obtain ⟨k0, k1, k2⟩ := HF4.out.sk
  obtain ⟨i0, i1, i2⟩ := HF4.out.si
  have fo := HF4.out.fo
  have fz := HF4.out.fz
  obtain ⟨hln, hlc, hCs⟩ := RD.C (HS.out.below HF4.out.b)
  obtain ⟨adS, hsA, hx1⟩ := Kd.at_int hCs (xs.length : Int) (by omega) (by omega)
  subst hsA
  rw [Int.toNat_natCast] at hx1
  have kx : w4.cell? (adS.add xs.length) = some (.int .i64 x) := hx1.trans (by rw [rd_last1])
  clear hx1 hln hCs
  go_upto_region 27 with fail
  have HF7 := Lib.hid (((HF4.out.set 2 (.slice (some adS) xs.length sC) (st' := #[.int .i64 (n : Nat), .slice vA s.vars.length vC, .slice (some adS) xs.length sC, .slice pA s.pts.length pC, .slice nA s.notes.length nC, .int .i64 s.fin, .int .i64 s.steps, .int .i64 s.br, .bool false, .int .i64 0]) rfl).set 0 (.int .i64 ((n : Int) + 1)) (st' := #[.int .i64 ((n : Int) + 1), .slice vA s.vars.length vC, .slice (some adS) xs.length sC, .slice pA s.pts.length pC, .slice nA s.notes.length nC, .int .i64 s.fin, .int .i64 s.steps, .int .i64 s.br, .bool false, .int .i64 0]) rfl).set 6 (.int .i64 (s.steps + 1)) (st' := #[.int .i64 ((n : Int) + 1), .slice vA s.vars.length vC, .slice (some adS) xs.length sC, .slice pA s.pts.length pC, .slice nA s.notes.length nC, .int .i64 s.fin, .int .i64 (s.steps + 1), .int .i64 s.br, .bool false, .int .i64 0]) rfl)
  clear c0 y0 c1 y1 c2 y2 c3 y3 c4 y4 c5 y5 c6 y6 c7 y7 c8 y8 c9 y9 k0 k1 k2 i0 i1 i2 fo fz kx
  generalize ((w4.setCell ⟨w.heap.size + 1, 2, none⟩ (.slice (some adS) xs.length sC)).setCell ⟨w.heap.size + 1, 0, none⟩ (.int .i64 ((n : Int) + 1))).setCell ⟨w.heap.size + 1, 6, none⟩ (.int .i64 (s.steps + 1)) = w7 at HF7 ⊢
  have HSR := Lib.hid (show RD w (.slice (some adS) xs.length sC) xs from by have h := HS.out.take xs.length (by omega); rwa [List.take_left' rfl] at h)
  obtain ⟨c0, c1, c2, c3, c4, c5, c6, c7, c8, c9⟩ := HF7.out.so
  obtain ⟨y0, y1, y2, y3, y4, y5, y6, y7, y8, y9⟩ := HF7.out.sz
  obtain ⟨k0, k1, k2⟩ := HF7.out.sk
  obtain ⟨i0, i1, i2⟩ := HF7.out.si
  have fo := HF7.out.fo
  have fz := HF7.out.fz
  clear HF4
  obtain ⟨_, _, hCp⟩ := RD.C (HP.out.below HF7.out.b)
  obtain ⟨ap, hpA, _⟩ := Kd.at_int hCp ((j : Nat) : Int) (by omega) (by omega)
  subst hpA
  clear hCp
  go_upto_region 54 with (go_at_call 28; refine (rin_any gA _ gC gl s.br _ rfl hg2 (Kd.C_below HG.out HF7.out.b)).mono ?_; rintro e w' ⟨rfl, rfl⟩; rw [HIN.out])
  have HF8 := Lib.hid (HF7.out.set 7 (.int .i64 (s.br + 1)) (st' := #[.int .i64 ((n : Int) + 1), .slice vA s.vars.length vC, .slice (some adS) xs.length sC, .slice (some ap) s.pts.length pC, .slice nA s.notes.length nC, .int .i64 s.fin, .int .i64 (s.steps + 1), .int .i64 (s.br + 1), .bool false, .int .i64 0]) rfl)
  clear c0 y0 c1 y1 c2 y2 c3 y3 c4 y4 c5 y5 c6 y6 c7 y7 c8 y8 c9 y9 k0 k1 k2 i0 i1 i2 fo fz
  generalize w7.setCell ⟨w.heap.size + 1, 7, none⟩ (.int .i64 (s.br + 1)) = w8 at HF8 ⊢
  obtain ⟨c0, c1, c2, c3, c4, c5, c6, c7, c8, c9⟩ := HF8.out.so
  obtain ⟨y0, y1, y2, y3, y4, y5, y6, y7, y8, y9⟩ := HF8.out.sz
  obtain ⟨k0, k1, k2⟩ := HF8.out.sk
  obtain ⟨i0, i1, i2⟩ := HF8.out.si
  have fo := HF8.out.fo
  have fz := HF8.out.fz
  have hxp : w8.cell? (ap.add j) = some (.int .i64 (rd s.pts ((j : Nat) : Int))) := by
    obtain ⟨_, _, hCp⟩ := RD.C (HP.out.below HF8.out.b)
    obtain ⟨ap', hpA, hx⟩ := Kd.at_int hCp ((j : Nat) : Int) (by omega) (by omega)
    injection hpA with hpA
    subst hpA
    rw [Int.toNat_natCast] at hx
    exact hx
  refine start_ (n := 18) (S := fun w' => w'.cell? ⟨w.heap.size + 1, 3, none⟩ = some (.slice (some ap) s.pts.length pC) ∧ w'.cell? ⟨gi, 2, none⟩ = some (.int .i64 (j : Nat)) ∧ w'.cell? (ap.add j) = some (.int .i64 (rd s.pts ((j : Nat) : Int)))) (ds := [17]) #[false, false, false, false, false, false, false, false, false, false, false, false, false, false, false, false, false, false] (by kernel_rfl) rfl rfl ⟨(World.cell?_drew _ _).trans c3, (World.cell?_drew _ _).trans i2, (World.cell?_drew _ _).trans hxp⟩ (fun hHeld => ?_)
  refine with_tabW rstep19.tab54 rstep19.bits54 (fun HT_ HW_ => ?_)
  have HF9 := Lib.hid HF8.out.drew
  clear c0 y0 c1 y1 c2 y2 c3 y3 c4 y4 c5 y5 c6 y6 c7 y7 c8 y8 c9 y9 k0 k1 k2 i0 i1 i2 fo fz hxp
  generalize w8.drew = w9 at HF9 hHeld ⊢
  refine pure_ (i := 0) (N := some 200) (v := ?_) (a' := ?_) #[true, false, false, false, false, false, false, false, false, false, false, false, false, false, false, false, false, false] rfl rfl (any_of HT_.out (by kernel_rfl)) (fun _ _ _ h => h) (Or.inl ⟨by rfl, ?_⟩) ?_ ?_
  rotate_left
  · intro w'
    go_simp
    first | done | (with_reducible rfl)
  rotate_left
  · simp only [Act.put, List.setIfInBounds_toArray, List.set_cons_zero, List.set_cons_succ, i64_w, i32_w]
    rfl
  refine pure_ (i := 1) (N := some 201) (v := ?_) (a' := ?_) #[true, true, false, false, false, false, false, false, false, false, false, false, false, false, false, false, false, false] rfl rfl (any_of HT_.out (by kernel_rfl)) (fun _ _ _ h => h) (Or.inl ⟨by rfl, ?_⟩) ?_ ?_
  rotate_left
  · intro w'
    go_simp
    first | done | (with_reducible rfl)
  rotate_left
  · simp only [Act.put, List.setIfInBounds_toArray, List.set_cons_zero, List.set_cons_succ, i64_w, i32_w]
    rfl
  refine pure_ (i := 3) (N := some 203) (v := ?_) (a' := ?_) #[true, true, false, true, false, false, false, false, false, false, false, false, false, false, false, false, false, false] rfl rfl (any_of HT_.out (by kernel_rfl)) (fun _ _ _ h => h) (Or.inl ⟨by rfl, ?_⟩) ?_ ?_
  rotate_left
  · intro w'
    go_simp
    first | done | (with_reducible rfl)
  rotate_left
  · simp only [Act.put, List.setIfInBounds_toArray, List.set_cons_zero, List.set_cons_succ, i64_w, i32_w]
    rfl
  refine pure_ (i := 5) (N := some 205) (v := ?_) (a' := ?_) #[true, true, false, true, false, true, false, false, false, false, false, false, false, false, false, false, false, false] rfl rfl (any_of HT_.out (by kernel_rfl)) (fun _ _ _ h => h) (Or.inl ⟨by rfl, ?_⟩) ?_ ?_
  rotate_left
  · intro w'
    go_simp
    first | done | (with_reducible rfl)
  rotate_left
  · simp only [Act.put, List.setIfInBounds_toArray, List.set_cons_zero, List.set_cons_succ, i64_w, i32_w]
    rfl
  refine pure_ (i := 6) (N := some 206) (v := ?_) (a' := ?_) #[true, true, false, true, false, true, true, false, false, false, false, false, false, false, false, false, false, false] rfl rfl (any_of HT_.out (by kernel_rfl)) (fun _ _ _ h => h) (Or.inl ⟨by rfl, ?_⟩) ?_ ?_
  rotate_left
  · intro w'
    go_simp
    first | done | (with_reducible rfl)
  rotate_left
  · simp only [Act.put, List.setIfInBounds_toArray, List.set_cons_zero, List.set_cons_succ, i64_w, i32_w]
    rfl
  refine pure_ (i := 8) (N := some 208) (v := ?_) (a' := ?_) #[true, true, false, true, false, true, true, false, true, false, false, false, false, false, false, false, false, false] rfl rfl (any_of HT_.out (by kernel_rfl)) (fun _ _ _ h => h) (Or.inl ⟨by rfl, ?_⟩) ?_ ?_
  rotate_left
  · intro w'
    go_simp
    first | done | (with_reducible rfl)
  rotate_left
  · simp only [Act.put, List.setIfInBounds_toArray, List.set_cons_zero, List.set_cons_succ, i64_w, i32_w]
    rfl
  refine pure_ (i := 12) (N := some 212) (v := ?_) (a' := ?_) #[true, true, false, true, false, true, true, false, true, false, false, false, true, false, false, false, false, false] rfl rfl (any_of HT_.out (by kernel_rfl)) (fun _ _ _ h => h) (Or.inl ⟨by rfl, ?_⟩) ?_ ?_
  rotate_left
  · intro w'
    go_simp
    first | done | (with_reducible rfl)
  rotate_left
  · simp only [Act.put, List.setIfInBounds_toArray, List.set_cons_zero, List.set_cons_succ, i64_w, i32_w]
    rfl
  refine take_ (i := 2) (N := some 202) (v := ?_) (a' := ?_) #[true, true, true, true, false, true, true, false, true, false, false, false, true, false, false, false, false, false] rfl rfl (take_ofW HT_.out HW_.out (by kernel_rfl)) (fun _ _ _ h => h) (Or.inl ⟨by rfl, ?_⟩) hHeld ?_ ?_
  rotate_left
  · rintro w' ⟨s0, s1, s2⟩
    go_simp
    first | done | (with_reducible rfl)
  rotate_left
  · simp only [Act.put, List.setIfInBounds_toArray, List.set_cons_zero, List.set_cons_succ, i64_w, i32_w]
    rfl
  refine take_ (i := 4) (N := some 204) (v := ?_) (a' := ?_) #[true, true, true, true, true, true, true, false, true, false, false, false, true, false, false, false, false, false] rfl rfl (take_ofW HT_.out HW_.out (by kernel_rfl)) (fun _ _ _ h => h) (Or.inl ⟨by rfl, ?_⟩) hHeld ?_ ?_
  rotate_left
  · rintro w' ⟨s0, s1, s2⟩
    go_simp
    first | done | (with_reducible rfl)
  rotate_left
  · simp only [Act.put, List.setIfInBounds_toArray, List.set_cons_zero, List.set_cons_succ, i64_w, i32_w]
    rfl
  refine take_ (i := 7) (N := some 207) (v := ?_) (a' := ?_) #[true, true, true, true, true, true, true, true, true, false, false, false, true, false, false, false, false, false] rfl rfl (take_ofW HT_.out HW_.out (by kernel_rfl)) (fun _ _ _ h => h) (Or.inl ⟨by rfl, ?_⟩) hHeld ?_ ?_
  rotate_left
  · rintro w' ⟨s0, s1, s2⟩
    go_simp
    first | done | (with_reducible rfl)
  rotate_left
  · simp only [Act.put, List.setIfInBounds_toArray, List.set_cons_zero, List.set_cons_succ, i64_w, i32_w]
    rfl
  refine take_ (i := 9) (N := some 209) (v := ?_) (a' := ?_) #[true, true, true, true, true, true, true, true, true, true, false, false, true, false, false, false, false, false] rfl rfl (take_ofW HT_.out HW_.out (by kernel_rfl)) (fun _ _ _ h => h) (Or.inl ⟨by rfl, ?_⟩) hHeld ?_ ?_
  rotate_left
  · rintro w' ⟨s0, s1, s2⟩
    go_simp
    first | done | (with_reducible rfl)
  rotate_left
  · simp only [Act.put, List.setIfInBounds_toArray, List.set_cons_zero, List.set_cons_succ, i64_w, i32_w]
    rfl
  refine pure_ (i := 10) (N := some 210) (v := ?_) (a' := ?_) #[true, true, true, true, true, true, true, true, true, true, true, false, true, false, false, false, false, false] rfl rfl (any_of HT_.out (by kernel_rfl)) (fun _ _ _ h => h) (Or.inl ⟨by rfl, ?_⟩) ?_ ?_
  rotate_left
  · intro w'
    go_simp
    first | done | (with_reducible rfl)
  rotate_left
  · simp only [Act.put, List.setIfInBounds_toArray, List.set_cons_zero, List.set_cons_succ, i64_w, i32_w]
    rfl
  refine take_ (i := 11) (N := some 211) (v := ?_) (a' := ?_) #[true, true, true, true, true, true, true, true, true, true, true, true, true, false, false, false, false, false] rfl rfl (take_ofW HT_.out HW_.out (by kernel_rfl)) (fun _ _ _ h => h) (Or.inl ⟨by rfl, ?_⟩) hHeld ?_ ?_
  rotate_left
  · rintro w' ⟨s0, s1, s2⟩
    go_simp
    first | done | (with_reducible rfl)
  rotate_left
  · simp only [Act.put, List.setIfInBounds_toArray, List.set_cons_zero, List.set_cons_succ, i64_w, i32_w]
    rfl
  refine pure_ (i := 13) (N := some 213) (v := ?_) (a' := ?_) #[true, true, true, true, true, true, true, true, true, true, true, true, true, true, false, false, false, false] rfl rfl (any_of HT_.out (by kernel_rfl)) (fun _ _ _ h => h) (Or.inl ⟨by rfl, ?_⟩) ?_ ?_
  rotate_left
  · intro w'
    go_simp
    first | done | (with_reducible rfl)
  rotate_left
  · simp only [Act.put, List.setIfInBounds_toArray, List.set_cons_zero, List.set_cons_succ, i64_w, i32_w]
    rfl
  refine one_ (i := 14) (N := some 214) #[true, true, true, true, true, true, true, true, true, true, true, true, true, true, true, false, false, false] rfl rfl (one_of HT_.out (by kernel_rfl)) (by decide) (fun K hK => ?_)
  refine goes_ Tryd.func25 (by kernel_rfl) rfl #[.slice (some ap) s.pts.length pC, .int .i64 (j : Nat), .int .i64 (orV (rd s.pts ((j : Nat) : Int)) 1)] (by rfl) rfl rfl (by (try simp only [List.map_toArray, List.map_cons, List.map_nil]); first | done | rfl) ?_
  refine (bootchainref17_with.calls (some ap) pC s.pts ((j : Nat) : Int) (orV (rd s.pts ((j : Nat) : Int)) 1) (s.pts.set j (orV (rd s.pts ((j : Nat) : Int)) 1)) w9 (RD.C (HP.out.below HF9.out.b)).2.2 (RD.C HP.out).2.1 (with_f s.pts j _ hj hpl)).mono ?_
  rintro e w10 ⟨v8, rfl, ho8, hb8⟩
  have HO8 := Lib.hid (Kd.R_lower ho8 HF9.out.b.size)
  obtain ⟨A8, n8, e8, _, _⟩ := Kd.R_reads ho8
  rw [List.length_set] at e8
  subst e8
  have HF10 := Lib.hid (HF9.out.below hb8)
  have hh1 := (hb8.cell (World.block_lt_of_cell? w9 _ hHeld.1)).trans hHeld.1
  have hh2 := (hb8.cell (World.block_lt_of_cell? w9 _ hHeld.2.1)).trans hHeld.2.1
  have hh3 := (hb8.cell (World.block_lt_of_cell? w9 _ hHeld.2.2)).trans hHeld.2.2
  clear ho8 hb8
  refine ⟨_, rfl, ?_⟩
  refine hK.out _ _ ⟨hh1, hh2, hh3⟩ (fun hHeld => ?_)
  clear hK K
  refine norm_ (a' := ?_) ?_ ?_
  rotate_left
  · show Act.put _ (some 214) _ = _
    simp only [Act.put, List.setIfInBounds_toArray, List.set_cons_zero, List.set_cons_succ, i64_w, i32_w]
    rfl
  clear hh1 hh2 hh3
  obtain ⟨c0, c1, c2, c3, c4, c5, c6, c7, c8, c9⟩ := HF10.out.so
  obtain ⟨y0, y1, y2, y3, y4, y5, y6, y7, y8, y9⟩ := HF10.out.sz
  obtain ⟨k0, k1, k2⟩ := HF10.out.sk
  obtain ⟨i0, i1, i2⟩ := HF10.out.si
  have fo := HF10.out.fo
  have fz := HF10.out.fz
  refine pure_ (i := 15) (N := some 215) (v := ?_) (a' := ?_) #[true, true, true, true, true, true, true, true, true, true, true, true, true, true, true, true, false, false] rfl rfl (any_of HT_.out (by kernel_rfl)) (fun _ _ _ h => h) (Or.inl ⟨by rfl, ?_⟩) ?_ ?_
  rotate_left
  · intro w'
    go_simp
    first | done | (with_reducible rfl)
  rotate_left
  · simp only [Act.put, List.setIfInBounds_toArray, List.set_cons_zero, List.set_cons_succ, i64_w, i32_w]
    rfl
  refine pure_ (i := 16) (N := some 216) (v := ?_) (a' := ?_) #[true, true, true, true, true, true, true, true, true, true, true, true, true, true, true, true, true, false] rfl rfl (any_of HT_.out (by kernel_rfl)) (fun _ _ _ h => h) (Or.inl ⟨by rfl, ?_⟩) ?_ ?_
  rotate_left
  · intro w'
    go_simp
    first | done | (with_reducible rfl)
  rotate_left
  · simp only [Act.put, List.setIfInBounds_toArray, List.set_cons_zero, List.set_cons_succ, i64_w, i32_w]
    rfl
  refine last_ (i := 17) (N := none) #[true, true, true, true, true, true, true, true, true, true, true, true, true, true, true, true, true, true] rfl rfl (one_of HT_.out (by kernel_rfl)) (by decide) (fun K hK => ?_)
  refine skip_ (w1 := ?_) (by rfl) rfl ?_ ?_
  rotate_left
  · go_simp
    rfl
  refine hK.out _ _ ?_
  clear hK K
  refine done_ (done_of HT_.out (by kernel_rfl)) ?_
  clear hHeld
  go_wp2_with fail
  have hrow := own_far (j := 3) (u := .slice A8 s.pts.length n8) (Kd.own_of_R HO8.out) (own_ne HF10.out.o (by decide) (Kd.own_of_R HO8.out))
  exact ok_end { s with pc := (n : Int) + 1, steps := s.steps + 1, stack := xs, br := s.br + 1, pts := s.pts.set j (orV (rd s.pts ((j : Nat) : Int)) 1), done := false } (HF10.out.set 3 (.slice A8 s.pts.length n8) (st' := #[.int .i64 ((n : Int) + 1), .slice vA s.vars.length vC, .slice (some adS) xs.length sC, .slice A8 s.pts.length n8, .slice nA s.notes.length nC, .int .i64 s.fin, .int .i64 (s.steps + 1), .int .i64 (s.br + 1), .bool false, .int .i64 0]) rfl) (.inl HV.out) (.inl HSR.out) (.inr hrow) (.inl HN.out) _ rfl
end Go.Proofs.YtbgfkepnlpgagaaDoor.P
